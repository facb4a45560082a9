/- Part of the proof; no statement of its own. -/
import Derived.Test.YtpinhnikemamjaaGreatDoorB32
import Derived.Test.YtpinhnikemamjaaGreatDoorB16
import Derived.Test.YtpinhnikemamjaaGreatDoorB26
import Derived.Test.YtpinhnikemamjaaGreatDoorB28
import Derived.Test.YtpinhnikemamjaaGreatDoorB08
set_option linter.all false
set_option maxRecDepth 4000
set_option maxHeartbeats 4000000
namespace Go.Sb
section
def y0X (s:St):St:= {s with g:=f0O s.g,young:= []}
theorem j1S {fr:Nat} {g:List Nat} {a:Int} :isB fr (f0O g) a 1=isB fr g a 1:=by
 unfold isB f0O
 rw[List.length_map,List.getElem?_map]
 cases h:g[(a-fr).toNat]? with
 |none=>rfl
 |some x=>
  rw[Option.map_some]
  by_cases h2:x=2
  ·subst h2;simp
  ·rw[if_neg h2]
theorem w0X: ∀g:List Nat,(f0O g).count 1=g.count 1∧g.count 0≤(f0O g).count 0
 | []=>⟨rfl,Nat.le_refl _⟩
 |x::g=>by
  obtain⟨h1,h2⟩:=w0X g
  have e:f0O (x::g)=(if x=2 then 0 else x)::f0O g:=rfl
  rw[e,List.count_cons,List.count_cons,List.count_cons,List.count_cons]
  by_cases hx:x=2
  ·subst hx;simp;omega
  ·rw[if_neg hx];omega
section
variable {s s':St} {G G':Gh} {P P':List Int}
theorem CI.settle (h:CI s G):CI (y0X s) G:=by
 have i:=h.inv
 have hl:(f0O s.g).length=s.g.length:=by unfold f0O;simp
 refine⟨⟨⟨⟨i.u.m.refs,List.nodup_nil,i.u.m.index,i.u.m.vols⟩,i.u.keep,fun a ha=> ?_,i.u.run,?_,?_⟩,i.nod,i.lo,?_,i.refs,i.live,i.zero,fun a=> ?_,i.disk,i.typ,?_⟩,h.idx,h.kid,h.ids,h.dep,h.log,h.gone,h.few⟩
 ·exact j1S.trans (i.u.held a ha)
 ·show s.d.l.length=s.fr+(f0O s.g).length;rw[hl];exact i.u.size
 ·show s.gone.Nodup∧ ∀a∈s.gone,isB s.fr (f0O s.g) a 2=true
  rw[h.gone];exact⟨List.nodup_nil,fun a ha=>(by cases ha)⟩
 ·show s.fr+(f0O s.g).length≤65535;rw[hl];exact i.hi
 ·show isB s.fr (f0O s.g) a 1=true↔_;rw[j1S];exact i.held a
 ·exact i.cnt.trans (w0X s.g).1.symm
theorem w1A (s:St):b0U s≤b0U (y0X s):=(w0X s.g).2
theorem J.settle {P:Rp} (h:J s G P):J (y0X s) G P:=⟨h.ci.settle,h.next,h.pos,h.bits,h.epoch,h.len,h.ord,h.ids,h.vol,h.back⟩
theorem Inv.leafSum (h:Inv s G P) (h':Inv s' G' P') {a a':Int} (ha:b0K G 0 a) (ha':b0K G' 0 a') (he:e0B G a=e0B G' a'):f0I G a=f0I G' a':=by
 rcases ha with rfl| ⟨d,t,ho⟩<;>rcases ha' with rfl| ⟨d',t',ho'⟩
 ·unfold f0I;rw[h.zero,h'.zero]
 ·exfalso
  unfold e0B at he
  rw[h.zero,ho']at he
  have:=(h'.typ _ _ ho').2.1
  simp only at he
  rw[←he,e0P]at this;cases this
 ·exfalso
  unfold e0B at he
  rw[h'.zero,ho]at he
  have:=(h.typ _ _ ho).2.1
  simp only at he
  rw[he,e0P]at this;cases this
 ·unfold e0B at he
  rw[ho,ho']at he
  simp only at he
  unfold f0I;rw[ho,ho',he]
theorem a1X {l i j:Nat} {a:Int} (hi:i<8) (hj:j<8^(l+1)):c0Z G (l+1) a (i*8^(l+1)+j)=c0Z G l ((c0B G a).getD i 0) j:=by
 have hp0:0<8^(l+1):=Nat.pow_pos (by decide)
 have e3:(b0X (l+1) (i*8^(l+1)+j)).1=i:=by
  unfold b0X;simp only
  rw[Nat.mul_comm i,Nat.mul_add_div hp0,Nat.div_eq_of_lt hj,Nat.add_zero,Nat.mod_eq_of_lt hi]
 have e4:(b0X (l+1) (i*8^(l+1)+j)).2=j:=by
  unfold b0X;simp only
  rw[Nat.mul_comm i,Nat.mul_add_mod,Nat.mod_eq_of_lt hj]
 conv=>lhs;unfold c0Z
 rw[e3,e4]
theorem s2H {ks:List Int} (h8:ks.length=8) (hne:ks≠f0B): ∃i,i<8∧ks.getD i 0≠0:=by
 refine Classical.byContradiction fun hno=>hne ?_
 refine List.ext_getElem (by rw[h8];rfl) fun i h1 h2=> ?_
 have hi:i<8:=by omega
 have:ks.getD i 0=0:=Classical.byContradiction fun h=>hno ⟨i,hi,h⟩
 rw[List.getD_eq_getElem?_getD,List.getElem?_eq_getElem h1]at this
 simp only[Option.getD_some]at this
 have h3:=c2N i
 rw[List.getD_eq_getElem?_getD,List.getElem?_eq_getElem h2]at h3
 simp only[Option.getD_some]at h3
 rw[this,h3]
theorem Inv.someLeaf (h:Inv s G P): ∀(l:Nat) {a:Int},b0K G (l+1) a→a≠0→ ∃j,j<8^(l+1)∧b0B (e0B G (c0Z G l a j))=false
 |l,a,ha,hne=>by
  obtain⟨ks,sm,ho⟩:=ha.resolve_left hne
  obtain⟨t1,t2,t3,t4,t5⟩:=h.typ a _ ho
  have hk:c0B G a=ks:=by unfold c0B;rw[ho]
  obtain⟨i,hi,hki⟩:=s2H t2 t3
  have hkid:=t4 _ (g0I (i:=i) (by rw[t2];exact hi))
  cases l with
  |zero=>
   obtain⟨d,t,hd⟩:=hkid.resolve_left hki
   refine⟨i,by simpa using hi,?_⟩
   have e:c0Z G 0 a i=ks.getD i 0:=by
    unfold c0Z b0X;simp only;rw[hk,show i/8^0%8=i by omega]
   rw[e];unfold e0B;rw[hd];exact(h.typ _ _ hd).2.1
  |succ l=>
   obtain⟨j,hj,hz⟩:=h.someLeaf l hkid hki
   have hp:8^(l+1+1)=8*8^(l+1):=by rw[Nat.pow_succ];omega
   have:i*8^(l+1)≤7*8^(l+1):=Nat.mul_le_mul_right _ (by omega)
   exact⟨i*8^(l+1)+j,by rw[hp];omega,by rw[a1X hi hj,hk];exact hz⟩
theorem Inv.noLeaf (h:Inv s G P) (l:Nat) {a:Int} (ha:b0K G (l+1) a) (hz: ∀j,j<8^(l+1)→b0B (e0B G (c0Z G l a j))=true):a=0:=by
 refine Classical.byContradiction fun hne=> ?_
 obtain⟨j,hj,e⟩:=h.someLeaf l ha hne
 rw[hz j hj]at e;cases e
theorem m2Y (hz:a0H 0 G=none):b0B (e0B G 0)=true:=by unfold e0B;rw[hz];exact e0P _
theorem Inv.sumSame (h:Inv s G P) (h':Inv s' G' P'): ∀(l:Nat) {a a':Int},b0K G (l+1) a→b0K G' (l+1) a'→(∀j,j<8^(l+1)→e0B G (c0Z G l a j)=e0B G' (c0Z G' l a' j))→f0I G a=f0I G' a'
 |l,a,a',ha,ha',he=>by
  by_cases h0:a=0
  ·have h0':a'=0:=h'.noLeaf l ha' fun j hj=>by rw[←he j hj,h0,t0K h.zero];exact m2Y h.zero
   rw[h0,h0'];unfold f0I;rw[h.zero,h'.zero]
  ·have h0':a'≠0:=fun e=>h0 (h.noLeaf l ha fun j hj=>by rw[he j hj,e,t0K h'.zero];exact m2Y h'.zero)
   obtain⟨ks,sm,ho⟩:=ha.resolve_left h0
   obtain⟨ks',sm',ho'⟩:=ha'.resolve_left h0'
   obtain⟨t1,t2,t3,t4,t5⟩:=h.typ a _ ho
   obtain⟨u1,u2,u3,u4,u5⟩:=h'.typ a' _ ho'
   have hk:c0B G a=ks:=by unfold c0B;rw[ho]
   have hk':c0B G' a'=ks':=by unfold c0B;rw[ho']
   have hs:ks.map (f0I G)=ks'.map (f0I G'):=by
    refine List.ext_getElem (by simp[t2,u2]) fun i h1 h2=> ?_
    rw[List.getElem_map,List.getElem_map]
    have hi:i<8:=by simpa [t2] using h1
    have e1:ks.getD i 0=ks[i]:=by rw[List.getD_eq_getElem?_getD,List.getElem?_eq_getElem];rfl
    have e2:ks'.getD i 0=ks'[i]:=by rw[List.getD_eq_getElem?_getD,List.getElem?_eq_getElem];rfl
    have k1:=t4 _ (List.getElem_mem (h:=by simpa using h1))
    have k2:=u4 _ (List.getElem_mem (h:=by simpa using h2))
    cases l with
    |zero=>
     refine h.leafSum h' k1 k2 ?_
     have:=he i (by simpa using hi)
     unfold c0Z b0X at this
     simp only at this
     rw[show i/8^0%8=i by omega,hk,hk',e1,e2]at this
     exact this
    |succ l=>
     refine h.sumSame h' l k1 k2 fun j hj=> ?_
     have hp:8^(l+1+1)=8*8^(l+1):=by rw[Nat.pow_succ];omega
     have:i*8^(l+1)≤7*8^(l+1):=Nat.mul_le_mul_right _ (by omega)
     have:=he (i*8^(l+1)+j) (by rw[hp];omega)
     rw[a1X hi hj,a1X hi hj,hk,hk',e1,e2]at this
     exact this
   unfold f0I
   rw[ho,ho']
   simp only
   rw[t5,u5,hs]
theorem Inv.sumMap (h:Inv s G P) (h':Inv s' G' P') {a a':Int} (ha:b0K G 3 a) (ha':b0K G' 3 a') (he:b0D G a=b0D G' a'):f0I G a=f0I G' a':=h.sumSame h' 2 ha ha' fun j hj=>by
 have:=congrFun he j
 unfold b0D at this
 rw[if_pos hj,if_pos hj]at this
 exact this
end
end
section
structure l1O (k:Nat) (id at_ n:Int) (data:B) (s:St) (P:Rp) (e:Int) (t:St) (Q:Rp):Prop where
 k0:k=0→ ∃m,g0J n s=(.ok (m,e),t)∧(f0G P n).2.2=e∧(e=0→m=(f0G P n).2.1)∧(e≠0→m=0)∧Q=if e=0 then(f0G P n).1 else P
 k1:k=1∨k=2→ ∃m,h0X id (decide (k=1)) s=(.ok (m,e),t)∧(j0E P id (decide (k=1))).2.2=e∧(e=0→m=(j0E P id (decide (k=1))).2.1)∧(e≠0→m=0)∧Q=if e=0 then(j0E P id (decide (k=1))).1 else P
 k3:k=3→r0F id s=(.ok e,t)∧(h0Q P id).2=e∧Q=if e=0 then(h0Q P id).1 else P
 k4:k=4→r0G id n s=(.ok e,t)∧(h0R P id n).2=e∧Q=if e=0 then(h0R P id n).1 else P
 k5:4<k∧k<9→h0E id at_ data s=(.ok e,t)∧(k0C P id at_ data).2=e∧Q=if e=0 then(k0C P id at_ data).1 else P
 k9:k=9∨k=10→w0Q id at_ n s=(.ok e,t)∧(m0M P id at_ n).2=e∧Q=if e=0 then(m0M P id at_ n).1 else P
 k11:k=11→o0T id at_ n s=(.ok (o0M P id at_ n),t)∧(o0M P id at_ n).2=e∧Q=P
 k12:k=12→t= {s with epoch:=n%256} ∧e=0∧Q= {P with epoch:=n%256}
 k13:k=13→t=y0X s∧e=0∧Q=P
def e0W (id:Int) (P Q:Rp):Prop:= ∀v∈P.l,v.id≠id→v∈Q.l
theorem e0W.refl (id:Int) (P:Rp):e0W id P P:=fun _ h _=>h
theorem j1T (id:Int) (P:Rp) (v:Vp):e0W id P (i0J P v).1:=fun w hw _=>by
 unfold i0J
 split
 ·exact hw
 ·exact List.mem_append_left _ hw
theorem n1W {id:Int} {P:Rp} {i:Nat} {w:Vp} (he: ∀h:i<P.l.length,P.l[i].id=id): ∀v∈P.l,v.id≠id→v∈P.l.set i w:=fun v hv hne=>by
 obtain⟨k,hk,rfl⟩:=List.mem_iff_getElem.1 hv
 have hki:i≠k:=fun e=>by subst e;exact hne (he hk)
 have:(P.l.set i w)[k]'(by simpa using hk)=P.l[k]:=List.getElem_set_ne hki _
 rw[←this];exact List.getElem_mem _
theorem n0K (i:Nat): ∀(k:Nat) (c:Rp) (at_:Nat) (d:B),i<c.l.length→ ∃m,(d0L i k c at_ d).1=d0R c i m
 |0,c,_,_,hi=>⟨(c.l.getD i v0).m,(n0E hi).symm⟩
 |k+1,c,at_,d,hi=>by
  rw[d0L]
  split
  ·exact⟨(c.l.getD i v0).m,(n0E hi).symm⟩
  ·simp only
   split
   ·exact⟨(c.l.getD i v0).m,(n0E hi).symm⟩
   ·obtain⟨m,h⟩:=n0K i k (d0R c i (j0O (c.l.getD i v0).m (at_/4:Nat) (a1L (g0R (at_/4:Nat) (c.l.getD i v0).m) d (at_%4*64) (min d.length (256-at_%4*64))))) (at_+min d.length (256-at_%4*64)/64) (d.drop (min d.length (256-at_%4*64))) (by rw[r0V];exact hi)
    exact⟨m,h.trans (p0I hi)⟩
theorem m0V (i:Nat) (c:Rp) (f u:Nat) (hi:i<c.l.length): ∃m,(e0C c i f u).1=d0R c i m:=by
 unfold e0C
 simp only
 split
 ·exact n0K i _ c f _ hi
 ·split
  ·exact⟨(c.l.getD i v0).m,(n0E hi).symm⟩
  ·split
   ·exact⟨(c.l.getD i v0).m,(n0E hi).symm⟩
   ·obtain⟨m1,e1⟩:=n0K i ((4*((f+3)/4)-f)*64) c f (a0T ((4*((f+3)/4)-f)*64)) hi
    rw[e1,p0I hi]
    obtain⟨m2,e2⟩:=n0K i ((u-4*(u/4))*64) (d0R c i (g0Q ((d0R c i m1).l.getD i v0).m ((f+3)/4:Nat) (u/4:Nat))) (4*(u/4)) (a0T ((u-4*(u/4))*64)) (by rw[r0V];exact hi)
    exact⟨m2,e2.trans (p0I hi)⟩
theorem j1U {id:Int} {P:Rp} {i:Nat} {m:List Lf} (he: ∀h:i<P.l.length,P.l[i].id=id):e0W id P (d0R P i m):=n1W he
theorem w1B (id at_:Int) (data:B) (P:Rp):e0W id P (k0C P id at_ data).1:=by
 cases hf:d0E P.l id with
 |none=>unfold k0C;rw[hf];exact e0W.refl _ _
 |some i=>
  obtain⟨hi,he⟩:=k0Y hf
  rw[x0S hf]
  split
  ·exact e0W.refl _ _
  split
  ·exact e0W.refl _ _
  split
  ·exact e0W.refl _ _
  split
  ·exact e0W.refl _ _
  ·obtain⟨m,e⟩:=n0K i data.length P at_.toNat data hi
   simp only
   rw[e];exact j1U fun _=>he
theorem c2W (id at_ n:Int) (P:Rp):e0W id P (m0M P id at_ n).1:=by
 cases hf:d0E P.l id with
 |none=>unfold m0M;rw[hf];exact e0W.refl _ _
 |some i=>
  obtain⟨hi,he⟩:=k0Y hf
  rw[a1V hf]
  split
  ·exact e0W.refl _ _
  split
  ·exact e0W.refl _ _
  ·obtain⟨m,e⟩:=m0V i P at_.toNat (at_+n).toNat hi
   rw[e];exact j1U fun _=>he
theorem t1Q (id size:Int) (P:Rp):e0W id P (h0R P id size).1:=by
 cases hf:d0E P.l id with
 |none=>unfold h0R;rw[hf];exact e0W.refl _ _
 |some i=>
  obtain⟨hi,he⟩:=k0Y hf
  rw[v0B hf]
  split
  ·exact e0W.refl _ _
  split
  ·exact e0W.refl _ _
  split
  ·exact e0W.refl _ _
  ·have: ∃m,(k0N P i size).1=d0R P i m:=by
    unfold k0N
    split
    ·exact m0V i P _ _ hi
    ·exact⟨_,(n0E hi).symm⟩
   obtain⟨m,e⟩:=this
   simp only
   rw[e]
   unfold d0R
   simp only[List.set_set]
   exact n1W (P:=P) fun _=>he
theorem t1R (id:Int) (P:Rp):e0W id P (h0Q P id).1:=by
 cases hf:d0E P.l id with
 |none=>unfold h0Q;rw[hf];exact e0W.refl _ _
 |some i=>
  obtain⟨hi,he⟩:=k0Y hf
  unfold h0Q
  rw[hf]
  intro w hw hne
  obtain⟨k,hk,rfl⟩:=List.mem_iff_getElem.1 hw
  show _∈P.l.eraseIdx i
  rw[List.mem_eraseIdx_iff_getElem]
  exact⟨k,hk,fun e=>by subst e;exact hne he,rfl⟩
theorem t1S {id:Int} {P Q:Rp} {p:Prop} [Decidable p] (h:e0W id P Q):e0W id P (if p then Q else P):=by
 split
 ·exact h
 ·exact e0W.refl _ _
theorem t1T (id size:Int) (P:Rp):e0W id P (f0G P size).1:=by
 unfold f0G
 split
 ·exact e0W.refl _ _
 ·exact j1T _ _ _
theorem c2X (id id':Int) (only:Bool) (P:Rp):e0W id P (j0E P id' only).1:=by
 unfold j0E
 split
 ·exact e0W.refl _ _
 ·exact j1T _ _ _
def Bud (i:Nat) (s:St) (P:Rp):Prop:= ∃w t,w+t≤i∧Few (4*w) P∧2498≤b0U s+96*w+t*(48+12*w)
theorem h2M: ∀w,w<18→ ∀t,t<18→w+t≤17→96*w+t*(48+12*w)≤2150:=by decide
theorem m2H {i:Nat} {s:St} {P:Rp} {w t:Nat} (hi:i≤17) (h:w+t≤i) (hf:2498≤b0U s+96*w+t*(48+12*w)):340≤b0U s∧w≤17:=by
 have:=h2M w (by omega) t (by omega) (by omega)
 omega
section
variable {s:St} {G:Gh} {P:Rp}
theorem n1X (P:Rp) (v:Vp):(i0J P v).1.next≤P.next+1:=by
 unfold i0J
 split<;>simp only<;>omega
theorem c2Y (id at_:Int) (data:B) (P:Rp):(k0C P id at_ data).1.next=P.next:=by
 cases hf:d0E P.l id with
 |none=>unfold k0C;rw[hf]
 |some i=>
  obtain⟨hi,_⟩:=k0Y hf
  rw[x0S hf]
  repeat' split
  all_goals first|rfl| (simp only;obtain⟨m,e⟩:=n0K i data.length P at_.toNat data hi;rw[e];rfl)
theorem h2N (id at_ n:Int) (P:Rp):(m0M P id at_ n).1.next=P.next:=by
 cases hf:d0E P.l id with
 |none=>unfold m0M;rw[hf]
 |some i=>
  obtain⟨hi,_⟩:=k0Y hf
  rw[a1V hf]
  repeat' split
  all_goals first|rfl| (obtain⟨m,e⟩:=m0V i P at_.toNat (at_+n).toNat hi;rw[e];rfl)
theorem w1C (id n:Int) (P:Rp):(h0R P id n).1.next=P.next:=by
 cases hf:d0E P.l id with
 |none=>unfold h0R;rw[hf]
 |some i=>
  obtain⟨hi,_⟩:=k0Y hf
  rw[v0B hf]
  have:(k0N P i n).1.next=P.next:=by
   unfold k0N
   split
   ·obtain⟨m,e⟩:=m0V i P n.toNat (P.l.getD i v0).size.toNat hi;rw[e];rfl
   ·rfl
  repeat' split
  all_goals first|rfl|exact this
theorem J.act (h:J s G P) {i:Nat} (hB:Bud i s P) (hi:i≤17) (hn:P.next<1000000) {k:Nat} (hk:k<14) (id at_ n:Int) {data:B} (hd:data.length%64=0→data.length≤768):
 ∃e t Q G',l1O k id at_ n data s P e t Q∧J t G' Q∧Bud (i+1) t Q∧Q.next≤P.next+1∧e0W id P Q:=by
 obtain⟨w,tt,hwt,hF,hfree⟩:=hB
 obtain⟨hroom,hw17⟩:=m2H (P:=P) hi hwt hfree
 have none_: ∀ {s':St} {Q:Rp},b0U s≤b0U s'→Few (4*w) Q→Bud (i+1) s' Q:=fun h1 h2=>⟨w,tt,by omega,h2,by omega⟩
 have made: ∀ {m:M (Int×Int)} {r:Rp×Int×Int},v0C s G P m r (4*w)→(r.1.next≤P.next+1)→e0W id P r.1→ ∃e t Q G',(∃n,m s=(.ok (n,e),t)∧r.2.2=e∧(e=0→n=r.2.1)∧(e≠0→n=0)∧Q=if e=0 then r.1 else P)∧J t G' Q∧Bud (i+1) t Q∧Q.next≤P.next+1∧e0W id P Q:=by
  rintro m r ⟨s',n,e1,e2,e3,e4,e5,e6⟩ hnx hkp
  refine⟨r.2.2,s',_,G,⟨n,e1,rfl,e2,e3,rfl⟩,e4,none_ e5 e6,?_,t1S hkp⟩
  split
  ·exact hnx
  ·omega
 have ended: ∀ {m:M Int} {r:Rp×Int} {K N:Nat},l1N s P m r K N→(∀ {s':St} {Q:Rp},b0U s≤b0U s'+K→Few N Q→Bud (i+1) s' Q)→e0W id P r.1→r.1.next=P.next→ ∃e t Q G',(m s=(.ok e,t)∧r.2=e∧Q=if e=0 then r.1 else P)∧J t G' Q∧Bud (i+1) t Q∧Q.next≤P.next+1∧e0W id P Q:=by
  rintro m r K N ⟨s',G',e1,e4,e5,e6⟩ hb hkp hnx
  refine⟨r.2,s',_,G',⟨e1,rfl,rfl⟩,e4,hb e5 e6,?_,t1S hkp⟩
  split
  ·omega
  ·omega
 have bT: ∀ {s':St} {Q:Rp},b0U s≤b0U s'+(48+4*w*3)→Few (4*w) Q→Bud (i+1) s' Q:=fun h1 h2=>⟨w,tt+1,by omega,h2,by have e:(tt+1)*(48+12*w)=tt*(48+12*w)+(48+12*w):=Nat.succ_mul _ _;omega⟩
 have bW: ∀ {s':St} {Q:Rp},b0U s≤b0U s'+96→Few (4*w+4) Q→Bud (i+1) s' Q:=fun h1 h2=>⟨w+1,tt,by omega,by rw[show 4*(w+1)=4*w+4 by omega];exact h2,by have e:=Nat.mul_add tt (48+12*w) 12;rw[show 48+12*(w+1)=48+12*w+12 by omega];omega⟩
 have hcase:k=0∨(k=1∨k=2)∨k=3∨k=4∨(4<k∧k<9)∨(k=9∨k=10)∨k=11∨k=12∨k=13:=by omega
 rcases hcase with hk|hk|hk|hk|hk|hk|hk|hk|hk
 ·obtain⟨e,t,Q,G',h1,h2,h3,h4,h5⟩:=made (h.create hF (by omega) (by omega) n) (by unfold f0G;split;(· simp only;omega);(· exact n1X _ _)) (t1T _ _ _)
  exact⟨e,t,Q,G',⟨fun _=>h1,(fun hh=>absurd hh (by omega)),(fun hh=>absurd hh (by omega)),(fun hh=>absurd hh (by omega)),(fun hh=>absurd hh (by omega)),(fun hh=>absurd hh (by omega)),(fun hh=>absurd hh (by omega)),(fun hh=>absurd hh (by omega)),(fun hh=>absurd hh (by omega))⟩,h2,h3,h4,h5⟩
 ·obtain⟨e,t,Q,G',h1,h2,h3,h4,h5⟩:=made (h.copy hF (by omega) (by omega) id (decide (k=1))) (by unfold j0E;split;(· simp only;omega);(· exact n1X _ _)) (c2X _ _ _ _)
  exact⟨e,t,Q,G',⟨(fun hh=>absurd hh (by omega)),fun _=>h1,(fun hh=>absurd hh (by omega)),(fun hh=>absurd hh (by omega)),(fun hh=>absurd hh (by omega)),(fun hh=>absurd hh (by omega)),(fun hh=>absurd hh (by omega)),(fun hh=>absurd hh (by omega)),(fun hh=>absurd hh (by omega))⟩,h2,h3,h4,h5⟩
 ·obtain⟨e,t,Q,G',h1,h2,h3,h4,h5⟩:=ended (h.delete hF id) none_ (t1R _ _) (by unfold h0Q;split<;>rfl)
  exact⟨e,t,Q,G',⟨(fun hh=>absurd hh (by omega)),(fun hh=>absurd hh (by omega)),fun _=>h1,(fun hh=>absurd hh (by omega)),(fun hh=>absurd hh (by omega)),(fun hh=>absurd hh (by omega)),(fun hh=>absurd hh (by omega)),(fun hh=>absurd hh (by omega)),(fun hh=>absurd hh (by omega))⟩,h2,h3,h4,h5⟩
 ·obtain⟨e,t,Q,G',h1,h2,h3,h4,h5⟩:=ended (h.resize hF id n (by omega) (by omega)) bT (t1Q _ _ _) (w1C _ _ _)
  exact⟨e,t,Q,G',⟨(fun hh=>absurd hh (by omega)),(fun hh=>absurd hh (by omega)),(fun hh=>absurd hh (by omega)),fun _=>h1,(fun hh=>absurd hh (by omega)),(fun hh=>absurd hh (by omega)),(fun hh=>absurd hh (by omega)),(fun hh=>absurd hh (by omega)),(fun hh=>absurd hh (by omega))⟩,h2,h3,h4,h5⟩
 ·obtain⟨e,t,Q,G',h1,h2,h3,h4,h5⟩:=ended (h.write hF id at_ hd (by omega)) bW (w1B _ _ _ _) (c2Y _ _ _ _)
  exact⟨e,t,Q,G',⟨(fun hh=>absurd hh (by omega)),(fun hh=>absurd hh (by omega)),(fun hh=>absurd hh (by omega)),(fun hh=>absurd hh (by omega)),fun _=>h1,(fun hh=>absurd hh (by omega)),(fun hh=>absurd hh (by omega)),(fun hh=>absurd hh (by omega)),(fun hh=>absurd hh (by omega))⟩,h2,h3,h4,h5⟩
 ·obtain⟨e,t,Q,G',h1,h2,h3,h4,h5⟩:=ended (h.trim hF id at_ n (by omega) (by omega)) bT (c2W _ _ _ _) (h2N _ _ _ _)
  exact⟨e,t,Q,G',⟨(fun hh=>absurd hh (by omega)),(fun hh=>absurd hh (by omega)),(fun hh=>absurd hh (by omega)),(fun hh=>absurd hh (by omega)),(fun hh=>absurd hh (by omega)),fun _=>h1,(fun hh=>absurd hh (by omega)),(fun hh=>absurd hh (by omega)),(fun hh=>absurd hh (by omega))⟩,h2,h3,h4,h5⟩
 ·obtain⟨t,h1,h2,h3⟩:=h.read id at_ n
  exact⟨(o0M P id at_ n).2,t,P,G,⟨(fun hh=>absurd hh (by omega)),(fun hh=>absurd hh (by omega)),(fun hh=>absurd hh (by omega)),(fun hh=>absurd hh (by omega)),(fun hh=>absurd hh (by omega)),(fun hh=>absurd hh (by omega)),fun _=>⟨h1,rfl,rfl⟩,(fun hh=>absurd hh (by omega)),(fun hh=>absurd hh (by omega))⟩,h2,none_ h3 hF,by omega,e0W.refl _ _⟩
 ·exact⟨0,{s with epoch:=n%256},{P with epoch:=n%256},G,⟨(fun hh=>absurd hh (by omega)),(fun hh=>absurd hh (by omega)),(fun hh=>absurd hh (by omega)),(fun hh=>absurd hh (by omega)),(fun hh=>absurd hh (by omega)),(fun hh=>absurd hh (by omega)),(fun hh=>absurd hh (by omega)),fun _=>⟨rfl,rfl,rfl⟩,(fun hh=>absurd hh (by omega))⟩,h.epoch_ _,none_ (Nat.le_refl _) hF,by simp only;omega,e0W.refl _ _⟩
 ·exact⟨0,y0X s,P,G,⟨(fun hh=>absurd hh (by omega)),(fun hh=>absurd hh (by omega)),(fun hh=>absurd hh (by omega)),(fun hh=>absurd hh (by omega)),(fun hh=>absurd hh (by omega)),(fun hh=>absurd hh (by omega)),(fun hh=>absurd hh (by omega)),(fun hh=>absurd hh (by omega)),fun _=>⟨rfl,rfl,rfl⟩⟩,h.settle,none_ (w1A s) hF,by omega,e0W.refl _ _⟩
end
end
end Go.Sb
namespace Go.Proofs.Q
open Go.Sl Go.Sb
section
section
variable {W:World} {s t:St}
theorem c2Z {id e:Int} (hf:Fit s) (h:r0F id s=(.ok e,t)) (a:Ad):a0S Tryz.prog 74 #[ptr a.core,.int .u32 id] (RS W a s) (b0G (a0V e) (RS W a t)):=by
 have k:=s1U W a s id hf.1 hf.2 (by rw[h];simp)
 rw[h]at k;exact k.ran_ok
theorem d2A (hW:h0L W) {id n e:Int} (hf:Fit s) (h:r0G id n s=(.ok e,t)) (a:Ad):a0S Tryz.prog 23 #[ptr a.core,.int .u32 id,.int .i64 n] (RS W a s) (b0G (a0V e) (RS W a t)):=by
 have k:=s1X W hW a s id n hf.1 hf.2 (by rw[h];simp)
 rw[h]at k;exact k.ran_ok
theorem m2I (hW:h0L W) {id at_ n e:Int} (hf:Fit s) (h:w0Q id at_ n s=(.ok e,t)) (a:Ad):a0S Tryz.prog 22 #[ptr a.core,.int .u32 id,.int .i64 at_,.int .i64 n] (RS W a s) (b0G (a0V e) (RS W a t)):=by
 have k:=c2L W hW a s id at_ n hf.1 hf.2 (by rw[h];simp)
 rw[h]at k;exact k.ran_ok
theorem h2O {id:Int} {p:Int×Int} (hf:Fit s) (h:h0X id false s=(.ok p,t)) (a:Ad):a0S Tryz.prog 44 #[ptr a.core,.int .u32 id] (RS W a s) (b0G (x0N p) (RS W a t)):=by
 have k:=v1V W a s id hf.2 (by rw[h];simp)
 rw[h]at k;exact k.ran_ok
end
def l1P (ki ai at_ n:Int) (l:B):Value:= .agg #[.int .i64 ki,.int .i64 ai,.int .i64 at_,.int .i64 n,b0H l]
def o0R (l:B) (n:Int):B:=n0Q l++if n%16=9 then [120]else []
theorem d1F (l:B) (n:Int):(o0R l n).length≤769∧((o0R l n).length%64=0→(o0R l n).length≤768):=by
 have h:=c1U l
 unfold o0R
 rw[List.length_append]
 split
 ·simp only[List.length_singleton];omega
 ·simp only[List.length_nil];omega
def t1U (e:Int) (x:b0J×Rx):Value:= .tuple #[.int .i64 e,e0X x.2,.int .i64 e]
end
section
abbrev ChE (H:b0J) (e:Int) (Q:Rp) (x:b0J×Rx):Prop:=(∀p∈H,p∈x.1)∧d0M x.1 x.2∧(e=0→er x.2=Q)
attribute [local irreducible] Sl.a0L Sl.OW Sl.CW Sl.OS Sl.OM Sl.OMf Sl.KM
theorem w1D (W:World) (hW:h0L W) (a:Ad) (s t:St) (bw:Nat) (H:b0J) (c:Rx) (ki ai at_ n id e:Int) (l:B) (k:Nat) (Q:Rp) (hk:ki%256%14=(k:Int)) (hkk:k<11∧2<k) (hid:0≤id∧id<32) (hf:Fit s) (hc:d0M H c) (hsz:x0M (er c)) (hbits:c.bits≤256)
 (hA:l1O k id at_ n (o0R l n) s (er c) e t Q):a0S Tryz.prog 49 #[ptr bw,l1P ki ai at_ n l,.int .u32 id] (RS W a s++ [l0P bw a.core c,c0Q H])
 (c0X (ChE H e Q) (t1U e) (fun x=>RS W a t++ [l0P bw a.core c,c0Q x.1])):=by
 have hdl:=d1F l n
 have hdd:=c1U l
 have hwi:IntKind.i64.wrap id=id:=i0O .i64 id hid.1 (by show id<9223372036854775808;omega)
 have hbd:(bs (n0Q l)).size=(n0Q l).length:=b0N _
 refine a0C Tryz.func49 rfl Tryz.ntmps49 rfl (fun R w0=> ?_)
 simp only[a0N,List.cons_append,List.nil_append,l1P]
 refine go 2 ?_
 refine(a0X rfl (fun b4=> ?_))
 refine go 1 ?_
 refine(a0U Zr.o (fun b7=> ?_))
 refine go 8 ?_
 refine a0F (n0L rfl rfl) ?_
 rw[d1K _ (by decide)]
 refine go 1 ?_
 rw[hk]
 refine go 11 ?_
 refine b0C rfl (fun hb23=> ?_) (fun hb23=> ?_)
 ·obtain rfl:k=3:=by have h:(k:Int)=3:=(by simpa using hb23);omega
  obtain⟨h1,h2,h3⟩:=hA.k3 rfl
  have k1:=c2Z (W:=W) hf h1 a
  refine go 5 ?_
  refine a0F (a0O (v:=(a0P c).toArray) Ag.o rfl (by simp[Value.cells,a0P]) (by rfl)) ?_
  refine go 2 ?_
  rw[hwi]
  refine a0W rfl Hb.o rfl (s1D H c id hc) gSp ?_
  rintro⟨H2,c2⟩ ⟨hs2,hc2,hr2⟩
  refine ns ?_
  refine go 3 ?_
  refine(a0U Zr.o (fun b10=> ?_))
  refine a0K Sz.o rfl rfl rfl (fun u hu=>c0N hc2 u (by simpa using hu)) (by simp[Value.cells,a0P,b0A]) (a0R (by simp[Value.cells,a0P,b0A])) ?_
  refine go 4 ?_
  refine d0H (.soft 0 (.soft 1 (.soft 2 (.soft 3 (.soft 4 (.soft 6 (.soft 7 (.hard 5 (.soft 8 (.hard 9 (.soft 10 .done))))))))))) [l0P bw a.core c,u0L b10 c2] Fol.o (by kernel_rfl) (by repeat (first|with_reducible exact a0J.bp|with_reducible apply a0J.then|with_reducible apply a0J.inBlock)) gSp ?_
  refine go 5 ?_
  refine d0D rfl (a0O (v:=(a0P c2).toArray) Ag.o rfl (by simp[Value.cells,a0P]) (a0I (by simp[Value.cells,a0P]))) ?_
  refine go 2 ?_
  refine a0D rfl Hb.o rfl (k1) gSp ?_
  refine ns ?_
  refine go 4 ?_
  refine a0K Sz.o rfl rfl rfl (fun u hu=>c0N hc2 u (by simpa using hu)) (by simp[Value.cells,a0P,b0A]) (a0R (by simp[Value.cells,a0P,b0A])) ?_
  refine go 5 ?_
  exact c0W (x:=((H2,c2):b0J×Rx)) ⟨hs2,hc2,fun h0=>by rw[show er c2=_ from hr2,h3,if_pos h0]⟩ (fun _ _ h=>h) (RV.tmp rfl (RV.agg Ag.o rfl (by simp[a0P]) (by rfl) (RV.tmp rfl RV.nil))) (by unfold t1U;rw[h2];rfl) gSp
 ·have k3: ¬k=3:=fun h=>by subst h;simp at hb23
  refine go 7 ?_
  refine b0C rfl (fun hb44=> ?_) (fun hb44=> ?_)
  ·obtain rfl:k=4:=by have h:(k:Int)=4:=(by simpa using hb44);omega
   obtain⟨h1,h2,h3⟩:=hA.k4 rfl
   have k1:=d2A (W:=W) hW hf h1 a
   refine go 1 ?_
   refine l0G (.soft 0 (.soft 1 (.soft 2 (.soft 3 (.soft 4 (.soft 5 (.soft 6 (.soft 7 (.float 12 (.hard 8 (.soft 9 (.soft 10 (.soft 11 (.res (.hard 13 (.soft 14 .done)))))))))))))))) [l0P bw a.core c,pts b4 (.cells #[.int .i64 ki,.int .i64 ai,.int .i64 at_,.int .i64 n,b0H l] 24 (0,0))] Fol.o (by kernel_rfl) (by repeat (first|with_reducible exact a0J.bp|with_reducible apply a0J.then|with_reducible apply a0J.inBlock)) gSp ?_
   refine go 3 ?_
   refine i0A rfl (a0O (v:=(a0P c).toArray) Ag.o rfl (by simp[Value.cells,a0P]) (by rfl)) ?_
   refine go 2 ?_
   rw[hwi]
   refine go 2 ?_
   refine k0O (e0:= []) rfl gSu (fun _ _ _=>rfl) Zr.o rfl ?_
   refine c0H rfl (fun hok EE FF=> ?_)
   simp only[List.cons_append,List.nil_append]
   refine a0W rfl Hb.o rfl (s1G H c id n hc hsz hbits) gSp ?_
   rintro⟨H2,c2⟩ ⟨hs2,hc2,hr2⟩
   refine ns ?_
   refine go 1 ?_
   refine c0G (E:=EE) (F:=FF) (by repeat (first|exact Tl.nil|apply Tl.cons)) gFd gSp (hok.put rfl) ?_
   refine go 3 ?_
   refine m0B (fun b12=> ?_)
   dsimp only
   refine c0H rfl (fun hok EE FF=> ?_)
   simp only[List.cons_append,List.nil_append]
   refine a0K Sz.o rfl rfl rfl (fun u hu=>c0N hc2 u (by simpa using hu)) (by simp[Value.cells,a0P,b0A]) (a0R (by simp[Value.cells,a0P,b0A])) ?_
   refine go 1 ?_
   refine c0G (E:=EE) (F:=FF) (by repeat (first|exact Tl.nil|apply Tl.cons)) gFd gSp hok ?_
   refine go 4 ?_
   refine d0H (.soft 0 (.soft 1 (.soft 2 (.soft 3 (.soft 4 (.soft 5 (.soft 6 (.soft 8 (.soft 9 (.hard 7 (.soft 10 (.hard 11 (.soft 12 .done))))))))))))) [l0P bw a.core c,u0L b12 c2,pts b4 (.cells #[.int .i64 ki,.int .i64 ai,.int .i64 at_,.int .i64 n,b0H l] 24 (0,0))] Fol.o (by kernel_rfl) (by repeat (first|with_reducible exact a0J.bp|with_reducible apply a0J.then|with_reducible apply a0J.inBlock)) gSp ?_
   refine go 7 ?_
   refine d0D rfl (a0O (v:=(a0P c2).toArray) Ag.o rfl (by simp[Value.cells,a0P]) (a0I (by simp[Value.cells,a0P]))) ?_
   refine go 2 ?_
   refine a0D rfl Hb.o rfl (k1) gSp ?_
   refine ns ?_
   refine go 4 ?_
   refine a0K Sz.o rfl rfl rfl (fun u hu=>c0N hc2 u (by simpa using hu)) (by simp[Value.cells,a0P,b0A]) (a0R (by simp[Value.cells,a0P,b0A])) ?_
   refine go 5 ?_
   exact c0W (x:=((H2,c2):b0J×Rx)) ⟨hs2,hc2,fun h0=>by rw[show er c2=_ from hr2,h3,if_pos h0]⟩ (fun _ _ h=>h) (RV.tmp rfl (RV.agg Ag.o rfl (by simp[a0P]) (by rfl) (RV.tmp rfl RV.nil))) (by unfold t1U;rw[h2];rfl) gSp
  ·have k4: ¬k=4:=fun h=>by subst h;simp at hb44
   refine go 7 ?_
   refine b0C rfl (fun hb69=> ?_) (fun hb69=> ?_)
   ·have k9:4<k∧k<9:=by have h:(k:Int)<9:=(by simpa using hb69);omega
    obtain⟨h1,h2,h3⟩:=hA.k5 k9
    have k1:=x0O (W:=W) hW hf (by omega) h1 a
    refine go 4 ?_
    refine a0D rfl Hb.o rfl (g2T l) gSp ?_
    refine ns ?_
    refine go 3 ?_
    refine w1H ([(0,ptr bw),(2,.int .u32 id),(4,.pointer (some ⟨b4,0,none⟩)),(6,.int .i64 0),(7,.pointer (some ⟨b7,0,none⟩)),(8,.int .i64 0),(14,b0H (o0R l n))]) (RS W a s++ [l0P bw a.core c,pts b4 (.cells #[.int .i64 ki,.int .i64 ai,.int .i64 at_,.int .i64 n,b0H l] 24 (0,0)),pts b7 (.cells #[.slice none 0 0,.int .i64 0,.int .i64 0,.int .i64 0] 34 (0,0)),c0Q H,R]) ?_ ?_
    ·refine go 4 ?_
     refine a0F (n0L rfl rfl) ?_
     rw[q2V]
     refine go 3 ?_
     refine b0C rfl (fun hb78=> ?_) (fun hb78=> ?_)
     ·have hds:o0R l n=n0Q l++ [120]:=by unfold o0R;rw[if_pos (by simpa using hb78)]
      refine go 2 ?_
      refine a0F (i0M rfl rfl (by rw[b0N,hdd,show(⟨#[120]⟩:ByteArray).size=1 from rfl];omega)) ?_
      rw[show bs (n0Q l)++(⟨#[120]⟩:ByteArray)=bs (o0R l n) by rw[hds,i0X]]
      refine go 2 ?_
      exact j1W (fun _ _ h=>h) gSu gSp
     ·have hds:o0R l n=n0Q l:=by unfold o0R;rw[if_neg (by simpa using hb78),List.append_nil]
      rw[hds]
      refine go 1 ?_
      exact j1W (fun _ _ h=>h) gSu gSp
    simp only[RS,List.cons_append,List.nil_append]
    refine go 1 ?_
    refine l0G (.soft 0 (.soft 1 (.soft 2 (.soft 3 (.soft 4 (.soft 5 (.soft 6 (.soft 7 (.soft 8 (.float 13 (.hard 9 (.soft 10 (.soft 11 (.soft 12 (.res (.hard 14 (.soft 15 .done))))))))))))))))) [l0P bw a.core c,pts b4 (.cells #[.int .i64 ki,.int .i64 ai,.int .i64 at_,.int .i64 n,b0H l] 24 (0,0))] Fol.o (by kernel_rfl) (by repeat (first|with_reducible exact a0J.bp|with_reducible apply a0J.then|with_reducible apply a0J.inBlock)) gSp ?_
    refine go 3 ?_
    refine i0A rfl (a0O (v:=(a0P c).toArray) Ag.o rfl (by simp[Value.cells,a0P]) (by rfl)) ?_
    refine go 2 ?_
    rw[hwi]
    refine go 3 ?_
    refine k0O (e0:= []) rfl gSu (fun _ _ _=>rfl) Zr.o rfl ?_
    refine c0H rfl (fun hok EE FF=> ?_)
    simp only[List.cons_append,List.nil_append]
    refine a0W rfl Hb.o rfl (v1N H c id at_ (o0R l n) hc hsz hbits (by omega)) gSp ?_
    rintro⟨H2,c2⟩ ⟨hs2,hc2,hr2⟩
    refine ns ?_
    refine go 1 ?_
    refine c0G (E:=EE) (F:=FF) (by repeat (first|exact Tl.nil|apply Tl.cons)) gFd gSp (hok.put rfl) ?_
    refine go 3 ?_
    refine m0B (fun b15=> ?_)
    dsimp only
    refine c0H rfl (fun hok EE FF=> ?_)
    simp only[List.cons_append,List.nil_append]
    refine a0K Sz.o rfl rfl rfl (fun u hu=>c0N hc2 u (by simpa using hu)) (by simp[Value.cells,a0P,b0A]) (a0R (by simp[Value.cells,a0P,b0A])) ?_
    refine go 1 ?_
    refine c0G (E:=EE) (F:=FF) (by repeat (first|exact Tl.nil|apply Tl.cons)) gFd gSp hok ?_
    refine go 4 ?_
    refine d0H (.soft 0 (.soft 1 (.soft 2 (.soft 3 (.soft 4 (.soft 5 (.soft 6 (.soft 7 (.soft 9 (.soft 10 (.hard 8 (.soft 11 (.hard 12 (.soft 13 .done)))))))))))))) [l0P bw a.core c,u0L b15 c2,pts b4 (.cells #[.int .i64 ki,.int .i64 ai,.int .i64 at_,.int .i64 n,b0H l] 24 (0,0))] Fol.o (by kernel_rfl) (by repeat (first|with_reducible exact a0J.bp|with_reducible apply a0J.then|with_reducible apply a0J.inBlock)) gSp ?_
    refine go 8 ?_
    refine d0D rfl (a0O (v:=(a0P c2).toArray) Ag.o rfl (by simp[Value.cells,a0P]) (a0I (by simp[Value.cells,a0P]))) ?_
    refine go 2 ?_
    refine a0D rfl Hb.o rfl (k1) gSp ?_
    refine ns ?_
    refine go 4 ?_
    refine a0K Sz.o rfl rfl rfl (fun u hu=>c0N hc2 u (by simpa using hu)) (by simp[Value.cells,a0P,b0A]) (a0R (by simp[Value.cells,a0P,b0A])) ?_
    refine go 5 ?_
    exact c0W (x:=((H2,c2):b0J×Rx)) ⟨hs2,hc2,fun h0=>by rw[show er c2=_ from hr2,h3,if_pos h0]⟩ (fun _ _ h=>h) (RV.tmp rfl (RV.agg Ag.o rfl (by simp[a0P]) (by rfl) (RV.tmp rfl RV.nil))) (by unfold t1U;rw[h2];rfl) gSp
   ·have k9:k=9∨k=10:=by have h: ¬(k:Int)<9:=(by simpa using hb69);omega
    obtain⟨h1,h2,h3⟩:=hA.k9 k9
    have k1:=m2I (W:=W) hW hf h1 a
    refine go 3 ?_
    refine l0G (.soft 0 (.soft 1 (.soft 2 (.soft 3 (.soft 4 (.soft 5 (.soft 6 (.soft 7 (.soft 8 (.soft 9 (.float 14 (.hard 10 (.soft 11 (.soft 12 (.soft 13 (.res (.hard 15 (.soft 16 .done)))))))))))))))))) [l0P bw a.core c,pts b4 (.cells #[.int .i64 ki,.int .i64 ai,.int .i64 at_,.int .i64 n,b0H l] 24 (0,0))] Fol.o (by kernel_rfl) (by repeat (first|with_reducible exact a0J.bp|with_reducible apply a0J.then|with_reducible apply a0J.inBlock)) gSp ?_
    refine go 3 ?_
    refine i0A rfl (a0O (v:=(a0P c).toArray) Ag.o rfl (by simp[Value.cells,a0P]) (by rfl)) ?_
    refine go 2 ?_
    rw[hwi]
    refine go 4 ?_
    refine k0O (e0:= []) rfl gSu (fun _ _ _=>rfl) Zr.o rfl ?_
    refine c0H rfl (fun hok EE FF=> ?_)
    simp only[List.cons_append,List.nil_append]
    refine a0W rfl Hb.o rfl (b2Q H c id at_ n hc hsz hbits) gSp ?_
    rintro⟨H2,c2⟩ ⟨hs2,hc2,hr2⟩
    refine ns ?_
    refine go 1 ?_
    refine c0G (E:=EE) (F:=FF) (by repeat (first|exact Tl.nil|apply Tl.cons)) gFd gSp (hok.put rfl) ?_
    refine go 3 ?_
    refine m0B (fun b17=> ?_)
    dsimp only
    refine c0H rfl (fun hok EE FF=> ?_)
    simp only[List.cons_append,List.nil_append]
    refine a0K Sz.o rfl rfl rfl (fun u hu=>c0N hc2 u (by simpa using hu)) (by simp[Value.cells,a0P,b0A]) (a0R (by simp[Value.cells,a0P,b0A])) ?_
    refine go 1 ?_
    refine c0G (E:=EE) (F:=FF) (by repeat (first|exact Tl.nil|apply Tl.cons)) gFd gSp hok ?_
    refine go 4 ?_
    refine d0H (.soft 0 (.soft 1 (.soft 2 (.soft 3 (.soft 4 (.soft 5 (.soft 6 (.soft 7 (.soft 8 (.soft 10 (.soft 11 (.hard 9 (.soft 12 (.hard 13 (.soft 14 .done))))))))))))))) [l0P bw a.core c,u0L b17 c2,pts b4 (.cells #[.int .i64 ki,.int .i64 ai,.int .i64 at_,.int .i64 n,b0H l] 24 (0,0))] Fol.o (by kernel_rfl) (by repeat (first|with_reducible exact a0J.bp|with_reducible apply a0J.then|with_reducible apply a0J.inBlock)) gSp ?_
    refine go 9 ?_
    refine d0D rfl (a0O (v:=(a0P c2).toArray) Ag.o rfl (by simp[Value.cells,a0P]) (a0I (by simp[Value.cells,a0P]))) ?_
    refine go 2 ?_
    refine a0D rfl Hb.o rfl (k1) gSp ?_
    refine ns ?_
    refine go 4 ?_
    refine a0K Sz.o rfl rfl rfl (fun u hu=>c0N hc2 u (by simpa using hu)) (by simp[Value.cells,a0P,b0A]) (a0R (by simp[Value.cells,a0P,b0A])) ?_
    refine go 5 ?_
    exact c0W (x:=((H2,c2):b0J×Rx)) ⟨hs2,hc2,fun h0=>by rw[show er c2=_ from hr2,h3,if_pos h0]⟩ (fun _ _ h=>h) (RV.tmp rfl (RV.agg Ag.o rfl (by simp[a0P]) (by rfl) (RV.tmp rfl RV.nil))) (by unfold t1U;rw[h2];rfl) gSp
end
section
theorem y1U (P:Rp) (v:Vp):(i0J P v).2.1=P.next∨(i0J P v).2.1=0:=by
 unfold i0J;split
 ·exact .inr rfl
 ·exact .inl rfl
theorem d2B (P:Rp) (n:Int):(f0G P n).2.1=P.next∨(f0G P n).2.1=0:=by
 unfold f0G;split
 ·exact .inr rfl
 ·exact y1U _ _
theorem m2J (P:Rp) (id:Int) (o:Bool):(j0E P id o).2.1=P.next∨(j0E P id o).2.1=0:=by
 unfold j0E;split
 ·exact .inr rfl
 ·exact y1U _ _
theorem l1Q {H H2:b0J} {c c2:Rx} {e:Int} (hs: ∀p∈H,p∈H2) (hc:d0M H c) (hc2:d0M H2 c2):d0M H2 (if e=0 then c2 else c):=by
 split
 ·exact hc2
 ·exact hc.more hs
theorem d2C {c c2:Rx} {e:Int} {r:Rp} (h:er c2=r):er (if e=0 then c2 else c)=if e=0 then r else er c:=by
 split
 ·exact h
 ·rfl
abbrev DoE (H:b0J) (Q:Rp) (x:b0J×Rx):Prop:=(∀p∈H,p∈x.1)∧d0M x.1 x.2∧er x.2=Q
theorem h2P {k:Nat} {id at_ n e:Int} {data:B} {s t:St} {P Q:Rp} (h:l1O k id at_ n data s P e t Q) (hk:k<11∧2<k) (he:e≠0):Q=P:=by
 have hc:k=3∨k=4∨(4<k∧k<9)∨(k=9∨k=10):=by omega
 rcases hc with hc|hc|hc|hc
 ·have:=(h.k3 hc).2.2;rw[if_neg he]at this;exact this
 ·have:=(h.k4 hc).2.2;rw[if_neg he]at this;exact this
 ·have:=(h.k5 hc).2.2;rw[if_neg he]at this;exact this
 ·have:=(h.k9 hc).2.2;rw[if_neg he]at this;exact this
attribute [local irreducible] Sl.a0L Sl.OW Sl.CW Sl.OS Sl.OM Sl.OMf Sl.KM
theorem n1Y (W:World) (hW:h0L W) (a:Ad) (s t:St) (bw:Nat) (H:b0J) (c:Rx) (ki ai at_ n id e:Int) (l:B) (k:Nat) (Q:Rp) (hk:ki%256%14=(k:Int)) (hid:ai%32=id) (hf:Fit s) (hdl0:s.depth=0∧s.log= []) (hc:d0M H c) (hsz:x0M (er c)) (hbits:c.bits≤256) (hnx:1≤c.next∧c.next<1000000)
 (hA:l1O k id at_ n (o0R l n) s (er c) e t Q):a0S Tryz.prog 12 #[ptr bw,l1P ki ai at_ n l] (RS W a s++ [l0P bw a.core c,c0Q H])
 (c0X (DoE H Q) (fun _=>s1N e true) (fun x=>RS W a t++ [l0P bw a.core x.2,c0Q x.1])):=by
 have hk14:k<14:=by omega
 have hnn:(er c).next=c.next:=rfl
 have hi0:0≤id∧id<32:=by omega
 have hwi:IntKind.i64.wrap id=id:=i0O .i64 id hi0.1 (by show id<9223372036854775808;omega)
 have hwu:IntKind.u32.wrap id=id:=i0O .u32 id hi0.1 (by show id<2147483648;omega)
 refine a0C Tryz.func12 rfl Tryz.ntmps12 rfl (fun R w0=> ?_)
 simp only[a0N,List.cons_append,List.nil_append,l1P]
 refine go 2 ?_
 refine(a0X rfl (fun b3=> ?_))
 refine go 9 ?_
 refine a0F (n0L rfl rfl) ?_
 rw[o1W,hid]
 refine go 1 ?_
 rw[hwu]
 refine go 8 ?_
 refine a0F (n0L rfl rfl) ?_
 rw[d1K _ (by decide)]
 refine go 1 ?_
 rw[hk]
 refine go 11 ?_
 refine b0C rfl (fun hb35=> ?_) (fun hb35=> ?_)
 ·obtain rfl:k=0:=by have h:(k:Int)=0:=(by simpa using hb35);omega
  obtain⟨m,h1,h2,h4,h5,h3⟩:=hA.k0 rfl
  have hmr:0≤m∧m<4294967296:=by by_cases he:e=0;{have:=h4 he;rcases d2B (er c) n with g|g<;>omega};{have:=h5 he;omega}
  have k1:=j1M (W:=W) hf h1 a
  refine go 1 ?_
  refine d0H (.soft 0 (.soft 1 (.soft 2 (.soft 3 (.soft 4 (.soft 5 (.hard 6 (.soft 7 (.soft 8 (.soft 9 (.soft 10 (.soft 11 .done)))))))))))) [l0P bw a.core c,pts b3 (.cells #[.int .i64 ki,.int .i64 ai,.int .i64 at_,.int .i64 n,b0H l] 24 (0,0))] Fol.o (by kernel_rfl) (by repeat (first|with_reducible exact a0J.bp|with_reducible apply a0J.then|with_reducible apply a0J.inBlock)) gSp ?_
  refine go 7 ?_
  refine a0D rfl Hb.o rfl (k1) gSp ?_
  refine ns ?_
  refine go 10 ?_
  refine l0G (.soft 0 (.soft 1 (.soft 2 (.soft 3 (.soft 4 (.soft 5 (.float 11 (.hard 6 (.soft 7 (.soft 8 (.soft 9 (.soft 10 (.res (.hard 12 (.soft 13 (.soft 14 .done)))))))))))))))) [l0P bw a.core c,pts b3 (.cells #[.int .i64 ki,.int .i64 ai,.int .i64 at_,.int .i64 n,b0H l] 24 (0,0))] Fol.o (by kernel_rfl) (by repeat (first|with_reducible exact a0J.bp|with_reducible apply a0J.then|with_reducible apply a0J.inBlock)) gSp ?_
  refine go 3 ?_
  refine i0A rfl (a0O (v:=(a0P c).toArray) Ag.o rfl (by simp[Value.cells,a0P]) (by rfl)) ?_
  refine go 2 ?_
  refine k0O (e0:= []) rfl gSu (fun _ _ _=>rfl) Zr.o rfl ?_
  refine c0H rfl (fun hok EE FF=> ?_)
  simp only[List.cons_append,List.nil_append]
  refine a0W rfl Hb.o rfl (s1C H c n hc (by omega)) gSp ?_
  rintro⟨H2,c2⟩ ⟨hs2,hc2,hr2⟩
  refine ns ?_
  refine go 1 ?_
  refine c0G (E:=EE) (F:=FF) (by repeat (first|exact Tl.nil|apply Tl.cons)) gFd gSp (hok.put rfl) ?_
  refine go 4 ?_
  refine m0B (fun b11=> ?_)
  dsimp only
  refine c0H rfl (fun hok EE FF=> ?_)
  simp only[List.cons_append,List.nil_append]
  refine a0K Sz.o rfl rfl rfl (fun u hu=>c0N hc2 u (by simpa using hu)) (by simp[Value.cells,a0P,b0A]) (a0R (by simp[Value.cells,a0P,b0A])) ?_
  refine go 1 ?_
  refine c0G (E:=EE) (F:=FF) (by repeat (first|exact Tl.nil|apply Tl.cons)) gFd gSp hok ?_
  refine go 9 ?_
  refine a0F (a0O (v:=(a0P c2).toArray) Ag.o rfl (by simp[Value.cells,a0P]) (a0I (by simp[Value.cells,a0P]))) ?_
  refine go 2 ?_
  rw[h2]
  refine a0D rfl Hb.o rfl (g1P bw a.core m (f0G (er c) n).2.1 e c c2 (c0N hc2) hmr h4 h5) gSp ?_
  refine ns ?_
  refine go 8 ?_
  refine d0Z (H2,if e=0 then c2 else c) ⟨hs2,l1Q hs2 hc hc2,by rw[h3];exact d2C hr2⟩ (fun _ _ h=>h) rfl rfl gSp
 ·have k0: ¬k=0:=fun h=>by subst h;simp at hb35
  refine go 7 ?_
  refine b0C rfl (fun hb69=> ?_) (fun hb69=> ?_)
  ·have k3:k=1∨k=2:=by have h:(k:Int)<3:=(by simpa using hb69);omega
   obtain⟨m,h1,h2,h4,h5,h3⟩:=hA.k1 k3
   have hmr:0≤m∧m<4294967296:=by by_cases he:e=0;{have:=h4 he;rcases m2J (er c) id (decide (k=1))with g|g<;>omega};{have:=h5 he;omega}
   refine go 12 ?_
   by_cases hk1:k=1
   ·refine go 5 ?_
    refine c0C rfl (by subst hk1;rfl) ?_
    refine go 6 ?_
    refine a0D rfl Hb.o rfl (s1P (W:=W) hf (by rw[decide_eq_true hk1]at h1;exact h1) a) gSp ?_
    refine ns ?_
    refine go 12 ?_
    refine a0F (a0O (v:=(a0P c).toArray) Ag.o rfl (by simp[Value.cells,a0P]) (by rfl)) ?_
    refine go 2 ?_
    rw[hwi]
    refine go 2 ?_
    rw[show((k:Int) == 1)=decide (k=1) by by_cases h:k=1;{subst h;rfl};{rw[decide_eq_false h];simp;omega}]
    refine a0W rfl Hb.o rfl (j1D H c id (decide (k=1)) hc (by omega)) gSp ?_
    rintro⟨H2,c2⟩ ⟨hs2,hc2,hr2⟩
    refine ns ?_
    refine go 4 ?_
    refine(a0U Zr.o (fun b17=> ?_))
    refine a0K Sz.o rfl rfl rfl (fun u hu=>c0N hc2 u (by simpa using hu)) (by simp[Value.cells,a0P,b0A]) (a0R (by simp[Value.cells,a0P,b0A])) ?_
    refine go 9 ?_
    refine a0F (a0O (v:=(a0P c2).toArray) Ag.o rfl (by simp[Value.cells,a0P]) (a0I (by simp[Value.cells,a0P]))) ?_
    refine go 2 ?_
    rw[h2]
    refine a0D rfl Hb.o rfl (g1P bw a.core m (j0E (er c) id (decide (k=1))).2.1 e c c2 (c0N hc2) hmr h4 h5) gSp ?_
    refine ns ?_
    refine go 8 ?_
    refine d0Z (H2,if e=0 then c2 else c) ⟨hs2,l1Q hs2 hc hc2,by rw[h3];exact d2C hr2⟩ (fun _ _ h=>h) rfl rfl gSp
   ·refine go 5 ?_
    refine d0W rfl (by have h:k=2:=(by omega);subst h;rfl) ?_
    refine go 13 ?_
    refine a0D rfl Hb.o rfl (h2O (W:=W) hf (by rw[decide_eq_false hk1]at h1;exact h1) a) gSp ?_
    refine ns ?_
    refine go 12 ?_
    refine a0F (a0O (v:=(a0P c).toArray) Ag.o rfl (by simp[Value.cells,a0P]) (by rfl)) ?_
    refine go 2 ?_
    rw[hwi]
    refine go 2 ?_
    rw[show((k:Int) == 1)=decide (k=1) by by_cases h:k=1;{subst h;rfl};{rw[decide_eq_false h];simp;omega}]
    refine a0W rfl Hb.o rfl (j1D H c id (decide (k=1)) hc (by omega)) gSp ?_
    rintro⟨H2,c2⟩ ⟨hs2,hc2,hr2⟩
    refine ns ?_
    refine go 4 ?_
    refine(a0U Zr.o (fun b17=> ?_))
    refine a0K Sz.o rfl rfl rfl (fun u hu=>c0N hc2 u (by simpa using hu)) (by simp[Value.cells,a0P,b0A]) (a0R (by simp[Value.cells,a0P,b0A])) ?_
    refine go 9 ?_
    refine a0F (a0O (v:=(a0P c2).toArray) Ag.o rfl (by simp[Value.cells,a0P]) (a0I (by simp[Value.cells,a0P]))) ?_
    refine go 2 ?_
    rw[h2]
    refine a0D rfl Hb.o rfl (g1P bw a.core m (j0E (er c) id (decide (k=1))).2.1 e c c2 (c0N hc2) hmr h4 h5) gSp ?_
    refine ns ?_
    refine go 8 ?_
    refine d0Z (H2,if e=0 then c2 else c) ⟨hs2,l1Q hs2 hc hc2,by rw[h3];exact d2C hr2⟩ (fun _ _ h=>h) rfl rfl gSp
  ·have k3: ¬k<3:=fun h=>by have h2: ¬(k:Int)<3:=(by simpa using hb69);omega
   refine go 7 ?_
   refine b0C rfl (fun hb113=> ?_) (fun hb113=> ?_)
   ·obtain rfl:k=11:=by have h:(k:Int)=11:=(by simpa using hb113);omega
    obtain⟨h1,h2,h3⟩:=hA.k11 rfl
    have k1:=l2W (W:=W) h1 a
    refine go 1 ?_
    refine d0H (.soft 0 (.soft 1 (.soft 2 (.soft 3 (.soft 4 (.soft 5 (.soft 6 (.soft 7 (.soft 8 (.hard 9 (.soft 10 (.soft 11 (.soft 12 (.soft 13 (.soft 14 .done))))))))))))))) [l0P bw a.core c,pts b3 (.cells #[.int .i64 ki,.int .i64 ai,.int .i64 at_,.int .i64 n,b0H l] 24 (0,0))] Fol.o (by kernel_rfl) (by repeat (first|with_reducible exact a0J.bp|with_reducible apply a0J.then|with_reducible apply a0J.inBlock)) gSp ?_
    refine go 10 ?_
    refine a0D rfl Hb.o rfl (k1) gSp ?_
    refine ns ?_
    refine go 10 ?_
    refine d0H (.soft 0 (.soft 1 (.soft 2 (.soft 3 (.soft 4 (.soft 5 (.soft 6 (.soft 7 (.soft 8 (.soft 9 (.hard 10 (.soft 11 (.soft 12 (.soft 13 (.soft 14 (.soft 15 .done)))))))))))))))) [l0P bw a.core c,pts b3 (.cells #[.int .i64 ki,.int .i64 ai,.int .i64 at_,.int .i64 n,b0H l] 24 (0,0))] Fol.o (by kernel_rfl) (by repeat (first|with_reducible exact a0J.bp|with_reducible apply a0J.then|with_reducible apply a0J.inBlock)) gSp ?_
    refine go 3 ?_
    refine d0D rfl (a0O (v:=(a0P c).toArray) Ag.o rfl (by simp[Value.cells,a0P]) (by rfl)) ?_
    refine go 2 ?_
    rw[hwi]
    refine go 5 ?_
    refine a0D rfl Hb.o rfl (b2L H c id at_ n hc hsz) gSp ?_
    refine ns ?_
    refine go 15 ?_
    refine a0F (b1D rfl rfl) ?_
    refine go 5 ?_
    refine d0Z (H,c) ⟨fun _ h=>h,hc,h3.symm⟩ (fun _ _ h=>h) rfl (by unfold s1N;simp[h2]) gSp
   ·have k11: ¬k=11:=fun h=>by subst h;simp at hb113
    refine go 7 ?_
    refine b0C rfl (fun hb148=> ?_) (fun hb148=> ?_)
    ·obtain rfl:k=12:=by have h:(k:Int)=12:=(by simpa using hb148);omega
     obtain⟨rfl,rfl,rfl⟩:=hA.k12 rfl
     refine go 1 ?_
     refine d0S 8 Fol.o (by kernel_rfl) ?_
     simp only[List.take_succ_cons,List.take_zero,List.drop_succ_cons,List.drop_zero]
     refine go 6 ?_
     refine c0K (n0L rfl rfl) ?_
     rw[d1K _ (by decide)]
     refine go 2 ?_
     rw[i0O .u32 (n%256) (by omega) (by show n%256<2147483648;omega)]
     refine a0D rfl Hb.o rfl (v1W W a s (n%256)) gSp ?_
     refine ns ?_
     refine go 7 ?_
     refine a0F (n0L rfl rfl) ?_
     refine go 3 ?_
     rw[d1K _ (by decide)]
     refine go 10 ?_
     refine d0Z (H,{c with epoch:=n%256}) ⟨fun _ h=>h,⟨hc.vols,hc.maps,hc.few⟩,rfl⟩ (fun _ _ h=>h) rfl rfl gSp
    ·have k12: ¬k=12:=fun h=>by subst h;simp at hb148
     refine go 7 ?_
     refine b0C rfl (fun hb167=> ?_) (fun hb167=> ?_)
     ·obtain rfl:k=13:=by have h:(k:Int)=13:=(by simpa using hb167);omega
      obtain⟨rfl,rfl,rfl⟩:=hA.k13 rfl
      refine go 8 ?_
      refine a0F (k0W Sc.o rfl gFd rfl) ?_
      refine a0D rfl Hb.o rfl (p1Y a s hdl0) gSp ?_
      refine ns ?_
      refine go 9 ?_
      refine d0Z (H,c) ⟨fun _ h=>h,hc,rfl⟩ (fun _ _ h=>h) rfl rfl gSp
     ·have k13: ¬k=13:=fun h=>by subst h;simp at hb167
      refine go 5 ?_
      refine a0F (a0O (v:= #[.int .i64 ki,.int .i64 ai,.int .i64 at_,.int .i64 n,b0H l]) Ag.o rfl (by simp[Value.cells]) (a0I (by simp[Value.cells]))) ?_
      refine go 1 ?_
      refine a0W rfl Hb.o rfl (w1D W hW a s t bw H c ki ai at_ n id e l k Q hk (by omega) hi0 hf hc hsz hbits hA) gSp ?_
      rintro⟨H2,c2⟩ ⟨hs2,hc2,hq2⟩
      refine ns ?_
      refine go 4 ?_
      refine(a0U Zr.o (fun b25=> ?_))
      refine go 1 ?_
      refine a0K Sz.o rfl rfl rfl (fun u hu=>c0N hc2 u (by simpa using hu)) (by simp[Value.cells,a0P,b0A]) (a0R (by simp[Value.cells,a0P,b0A])) ?_
      refine go 5 ?_
      by_cases he:e=0
      ·refine go 4 ?_
       refine g0M (l0R rfl) (fun a w hh=>(b0E rfl rfl rfl hh).trans (wTT (by simpa using he))) ?_
       refine g0M (y1X rfl rfl) (fun a w hh=>(b0E rfl rfl rfl hh).trans (wTT (by simpa using he))) ?_
       refine a0F (o0V rfl (by simpa using he) rfl) ?_
       refine go 2 ?_
       refine d0W rfl (by simpa using he) ?_
       refine go 2 ?_
       refine a0F (a0O (v:=(a0P c2).toArray) Ag.o rfl (by simp[Value.cells,a0P]) (a0I (by simp[Value.cells,a0P]))) ?_
       refine go 2 ?_
       refine a0K Sz.o rfl rfl rfl (fun u hu=>c0N hc2 u (by simpa using hu)) (by simp[a0P]) (by simp[i0N,a0P];rfl) ?_
       refine go 11 ?_
       refine d0Z (H2,c2) ⟨hs2,hc2,hq2 he⟩ (fun _ _ h=>h) rfl rfl gSp
      ·refine go 4 ?_
       refine f0D rfl (fun a w hh=>(b0E rfl rfl rfl hh).trans (wTF (by simpa using he))) ?_
       refine f0D rfl (fun a w hh=>(b0E rfl rfl rfl hh).trans (wTF (by simpa using he))) ?_
       refine a0F (n0R rfl (by simpa using he) rfl) ?_
       refine go 14 ?_
       refine d0Z (H2,c) ⟨hs2,hc.more hs2,(h2P hA (by omega) he).symm⟩ (fun _ _ h=>h) rfl rfl gSp
end
end Go.Proofs.Q

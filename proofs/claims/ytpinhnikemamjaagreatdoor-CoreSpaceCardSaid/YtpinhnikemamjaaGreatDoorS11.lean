/- Part of the proof; no statement of its own. -/
import Derived.Test.YtpinhnikemamjaaGreatDoorS10
set_option linter.all false
set_option maxRecDepth 4000
set_option maxHeartbeats 4000000
namespace Go.Sb
section
structure d0J (c:Nat) (s:St):Prop where
 d:0<s.depth
 l:s.log.length+c+10<1000000000
 g:s.gone.length+c+10<1000000000
theorem Rel.len {c k:Nat} {s t:St} (h:Rel c k s t):t.log.length≤s.log.length+c:=by
 obtain⟨l,e,n,_⟩:=h.log;rw[e,List.length_append];omega
theorem d0J.go {c c' k:Nat} {s t:St} (h:d0J (c+c') s) (r:Rel c k s t):d0J c' t:=
 ⟨by rw[r.depth];exact h.d,by have:=r.len;have:=h.l;omega,by have:=r.gone;have:=h.g;omega⟩
theorem d0J.le {c c':Nat} {s:St} (h:d0J c s) (hc:c'≤c):d0J c' s:=⟨h.d,by have:=h.l;omega,by have:=h.g;omega⟩
structure Stp (c k:Nat) (s:St) (G:Gh) (s':St) (G':Gh):Prop where
 rel:Rel c k s s'
 idx:Idx s' G'
 old: ∀b o,a0C b G'=some o→a0C b G=some o∨k0G s b
 keep:s'.keep=s.keep
 vols:s'.vols=s.vols
 next:s'.next=s.next
 safe:s.keep≤(a0Y s:Int)→s'.keep≤(a0Y s':Int)
theorem Stp.trans {c1 k1 c2 k2:Nat} {s t u:St} {G1 G2 G3:Gh} (h:Stp c1 k1 s G1 t G2) (j:Stp c2 k2 t G2 u G3):Stp (c1+c2) (k1+k2) s G1 u G3:=
 ⟨h.rel.trans j.rel,j.idx,fun b o hb=>by
  rcases j.old b o hb with h1|h1
  ·exact h.old b o h1
  ·exact .inr (h.rel.free b h1),j.keep.trans h.keep,j.vols.trans h.vols,j.next.trans h.next,fun g=>j.safe (h.safe g)⟩
theorem Stp.mono {c k c' k':Nat} {s t:St} {G G':Gh} (h:Stp c k s G t G') (hc:c≤c') (hk:k≤k'):Stp c' k' s G t G':=⟨h.rel.mono hc hk,h.idx,h.old,h.keep,h.vols,h.next,h.safe⟩
theorem g1Q {c:Nat} {s t:St} (r:Rel c 0 s t) (hk:t.keep=s.keep):s.keep≤(a0Y s:Int)→t.keep≤(a0Y t:Int):=fun g=>by have:=r.room;omega
theorem Stp.refl {s:St} {G:Gh} {P:List Int} (h:Inv s G P) (hi:Idx s G):Stp 0 0 s G s G:=⟨Rel.refl h.u,hi,fun _ _ h=> .inl h,rfl,rfl,rfl,id⟩
section
variable {s:St} {G:Gh} {P:List Int}
theorem Inv.perm {Q:List Int} (h:Inv s G P) (hp: ∀x,x≠0→P.count x=Q.count x):Inv s G Q:=
 ⟨h.u,h.nod,h.lo,h.hi,fun a ha=>by have:=h.refs a ha;unfold f0C at this ⊢;rw[←hp a ha];exact this,fun a ha=>by have:=h.live a ha;unfold f0C at this ⊢;rw[←hp a ha];exact this,
  h.zero,h.held,h.disk,h.typ,h.cnt,fun x b hx=>by have:=h.lone x b hx;unfold f0C at this ⊢;rw[←hp x (h.ne0 hx)];exact this⟩
theorem Inv.drop0 (h:Inv s G (0::P)):Inv s G P:=h.perm fun x hx=>by rw[List.count_cons_of_ne (Ne.symm hx)]
theorem Inv.add0 (h:Inv s G P):Inv s G (0::P):=h.perm fun x hx=>by rw[List.count_cons_of_ne (Ne.symm hx)]
theorem Inv.pend (h:Inv s G P) {x:Int} (hx:x∈P) (h0:x≠0):(a0C x G).isSome=true:=(h.live x h0).1 (by have:=List.count_pos_iff.2 hx;unfold f0C;omega)
def Sub (G' G:Gh):Prop:= ∀b o,a0C b G'=some o→a0C b G=some o
theorem Sub.refl (G:Gh):Sub G G:=fun _ _ h=>h
theorem Sub.trans {A B C:Gh} (h:Sub A B) (j:Sub B C):Sub A C:=fun b o hb=>j b o (h b o hb)
theorem a1Q {a:Int} (hG:mok G):Sub (b0D a G) G:=fun b o h=>by
 rw[c0L a b hG]at h;split at h
 ·cases h
 ·exact h
theorem x0H {G':Gh} (hs:Sub G' G) {l:Nat} {k:Int} (h:a0W G l k) (hk:k=0∨(a0C k G').isSome=true):a0W G' l k:=by
 rcases hk with rfl|hk
 ·cases l<;>exact .inl rfl
 ·obtain⟨o,ho⟩:=Option.isSome_iff_exists.1 hk;have h1:=hs k o ho;cases l with
  |zero=>
   rcases h with rfl| ⟨d,ats,e⟩
   ·exact .inl rfl
   ·rw[e]at h1;cases h1;exact .inr ⟨d,ats,ho⟩
  |succ l=>
   rcases h with rfl| ⟨d,ats,e⟩
   ·exact .inl rfl
   ·rw[e]at h1;cases h1;exact .inr ⟨d,ats,ho⟩
theorem Inv.lessParts: ∀(ats:List Int) {s:St} {G:Gh},Inv s G (ats++P)→(∀x∈ats,x=0∨ ∃b,a0C x G=some (.part b))→d0J (ats.length*4) s→P.length+ats.length<1000000→
 ∃s' G',d0V j0K ats s=(.ok (),s')∧Inv s' G' P∧Rel (ats.length*4) 0 s s'∧Sub G' G∧(∀b o,a0C b G=some o→(∃x,o= .part x)∨a0C b G'=some o)∧s'.index=s.index∧s'.keep=s.keep∧s'.vols=s.vols∧s'.next=s.next
 | [],s,G,h,_,_,_=>⟨s,G,rfl,h,(Rel.refl h.u).mono (by simp) (by omega),Sub.refl G,fun _ _ h=> .inr h,rfl,rfl,rfl,rfl⟩
 |x::ats,s,G,h,ht,hr,hP=>by
  have hr':d0J (4+ats.length*4) s:=hr.le (by simp;omega);simp only[List.length_cons]at hP;have one: ∃s1 G1,j0K x s=(.ok (),s1)∧Inv s1 G1 (ats++P)∧Rel 4 0 s s1∧Sub G1 G∧(∀b o,a0C b G=some o→(∃x,o= .part x)∨a0C b G1=some o)∧s1.index=s.index∧s1.keep=s.keep∧s1.vols=s.vols∧s1.next=s.next:=by
   rcases ht x (List.mem_cons_self ..)with rfl| ⟨b,hb⟩
   ·exact⟨s,G,by unfold j0K;rw[if_neg (by omega)];rfl,h.drop0,(Rel.refl h.u).mono (by omega) (by omega),Sub.refl G,fun _ _ h=> .inr h,rfl,rfl,rfl,rfl⟩
   ·have hx:=h.range hb;by_cases hn:f0C G (ats++P) x=0
    ·obtain⟨s1,e1,i1,r1,q1,q2,q3,q4⟩:=h.less1 hb hr.d (by have:=hr'.l;omega) (by have:=hr'.g;omega) hn;refine⟨s1,b0D x G,by unfold j0K;rw[if_pos (by omega),a0A e1];rfl,i1,r1,a1Q h.nod,fun c o hc=> ?_,q1,q2,q3,q4⟩;by_cases e:x=c
     ·subst e;rw[hb]at hc;cases hc;exact .inl ⟨b,rfl⟩
     ·rw[c0L x c h.nod,if_neg e];exact .inr hc
    ·obtain⟨s1,e1,i1,r1,q1,q2,q3,q4⟩:=h.less2 hb hr.d (by have:=hr'.l;omega) (by simp;omega) hn;exact⟨s1,G,by unfold j0K;rw[if_pos (by omega),a0A e1];rfl,i1,r1,Sub.refl G,fun _ _ h=> .inr h,q1,q2,q3,q4⟩
  obtain⟨s1,G1,e1,i1,r1,sb1,k1,q1,q2,q3,q4⟩:=one;obtain⟨s2,G2,e2,i2,r2,sb2,k2,p1,p2,p3,p4⟩:=Inv.lessParts ats i1 (fun y hy=>by
   rcases ht y (List.mem_cons_of_mem _ hy)with h0| ⟨b,hb⟩
   ·exact .inl h0
   ·have hy0:=h.ne0 hb;obtain⟨o,ho⟩:=Option.isSome_iff_exists.1 (i1.pend (List.mem_append_left _ hy) hy0);have:=sb1 y o ho;rw[hb]at this;cases this;exact .inr ⟨b,ho⟩) (hr'.go r1) (by omega)
  refine⟨s2,G2,by unfold d0V;rw[a0A e1,e2],i2,(r1.trans r2).mono (by simp;omega) (by omega),sb2.trans sb1,fun b o hb=> ?_,p1.trans q1,p2.trans q2,p3.trans q3,p4.trans q4⟩;rcases k1 b o hb with h1|h1
  ·exact .inl h1
  ·exact k2 b o h1
theorem z0B {d:B} {ats:List Int} (h:x0X G (.ext d ats)): ∀x∈ats,x=0∨ ∃b,a0C x G=some (.part b):=by
 obtain⟨t1,t2,t3,t4⟩:=h;intro x hx;obtain⟨k,hk,rfl⟩:=List.getElem_of_mem hx;have e:ats.getD k 0=ats[k]:=by rw[List.getD_eq_getElem?_getD,List.getElem?_eq_getElem hk];rfl
 have:=t4 k (by omega);unfold v0S at this;rw[e]at this;split at this
 ·exact .inl this
 ·exact .inr ⟨_,this.2⟩
theorem Inv.xless {a:Int} (h:Inv s G (a::P)) (hi:Idx s G) (ha:a0W G 0 a) (hr:d0J 21 s) (hP:P.length+8<1000000):
 ∃s' G',g0O a s=(.ok (),s')∧Inv s' G' P∧Stp 21 0 s G s' G'∧Sub G' G:=by
 unfold Go.Sb.g0O;rcases ha with rfl| ⟨d,ats,ho⟩
 ·exact⟨s,G,by rw[if_pos rfl];rfl,h.drop0,(Stp.refl h hi).mono (by omega) (by omega),Sub.refl G⟩
 rw[if_neg (h.ne0 ho),a0A (h.xhead ho)];by_cases hn:f0C G P a=0
 ·obtain⟨s1,e1,i1,r1,q1,q2,q3,q4⟩:=h.less1 ho hr.d (by have:=hr.l;omega) (by have:=hr.g;omega) hn;rw[a0A e1];have hok:=h.typ a _ ho;have hnk:a ∉ ats:=fun hm=>t0L ho hm (by unfold f0C at hn;omega);obtain⟨s2,G2,e2,i2,r2,sb2,k2,p1,p2,p3,p4⟩:=Inv.lessParts ats (s:=s1) (G:=b0D a G) (P:=P) i1 (fun x hx=>by
   rcases z0B hok x hx with h0| ⟨b,hb⟩
   ·exact .inl h0
   ·exact .inr ⟨b,by rw[c0L a x h.nod,if_neg (fun(e:a=x)=>hnk (by subst e;exact hx))];exact hb⟩) ((hr.le (c':=4+ats.length*4) (by have:ats.length=4:=hok.2.2.1;omega)).go r1) (by have:ats.length=4:=hok.2.2.1;omega)
  have r12:Rel 20 0 s s2:=(r1.trans r2).mono (by have:ats.length=4:=hok.2.2.1;omega) (by omega);have hr2:d0J 1 s2:=(hr.le (by omega):d0J (20+1) s).go r12;have e3:h0O (key s2.bits (Sha.sum d)) s2=(.ok (),{s2 with log:=bk s2.depth s2.log (.index (key s2.bits (Sha.sum d)) (a0C (key s2.bits (Sha.sum d)) s2.index)),index:=b0D (key s2.bits (Sha.sum d)) s2.index}):=by
   have:=hr2.l;simp[h0O,a0B,back,show ¬1000000000≤s2.log.length by omega]
  have r3:=e1J (key s2.bits (Sha.sum d)) s2 hr2.d i2.u (by rw[e3];simp);rw[e3]at r3;have hsub:Sub G2 G:=sb2.trans (a1Q h.nod);refine⟨_,G2,?_,⟨r3.ok,i2.nod,i2.lo,i2.hi,i2.refs,i2.live,i2.zero,i2.held,i2.disk,i2.typ,i2.cnt,i2.lone⟩,⟨(r12.trans r3).mono (by omega) (by omega),fun k b=> ?_,fun b o hb=> .inl (hsub b o hb),p2.trans q2,p3.trans q3,p4.trans q4,g1Q (r12.trans r3) (p2.trans q2)⟩,hsub⟩
  ·simp only[if_true];show a0B (d0V j0K ats) _ s1=_;rw[a0A e2];exact e3
  ·show a0C k (b0D (key s2.bits (Sha.sum d)) s2.index)=some b↔ ∃d' ats',a0C b G2=some (.ext d' ats')∧k=key s2.bits (Sha.sum d');rw[c0L _ k i2.u.m.index,show s2.bits=s.bits from r12.bits,p1,q1];constructor
   ·intro hk;split at hk
    ·cases hk
    ·rename_i hne;obtain⟨d',ats',hb,e⟩:=(hi k b).1 hk;refine⟨d',ats',?_,e⟩;have hba:a≠b:=fun e2=>by subst e2;rw[ho]at hb;cases hb;exact hne e.symm
     rcases k2 b (.ext d' ats') (by rw[c0L a b h.nod,if_neg hba];exact hb)with ⟨x,hx⟩|hx
     ·cases hx
     ·exact hx
   ·rintro⟨d',ats',hb,e⟩;have hb':=hsub b _ hb;have hk:=(hi k b).2 ⟨d',ats',hb',e⟩;rw[if_neg]
    ·exact hk
    ·intro e2;have:=(hi (key s.bits (Sha.sum d)) a).2 ⟨d,ats,ho,rfl⟩;rw[e2,hk]at this;cases this
     have:=sb2 a _ hb;rw[c0L a a h.nod,if_pos rfl]at this;cases this
 ·obtain⟨s1,e1,i1,r1,q1,q2,q3,q4⟩:=h.less2 ho hr.d (by have:=hr.l;omega) (by omega) hn;rw[a0A e1];exact⟨s1,G,rfl,i1,⟨r1.mono (by omega) (by omega),fun k b=>by rw[q1,r1.bits];exact hi k b,fun _ _ h=> .inl h,q2,q3,q4,g1Q r1 q2⟩,Sub.refl G⟩
theorem Inv.rlessL {l:Nat} (hone: ∀ {s:St} {G:Gh} {P:List Int} {a:Int},Inv s G (a::P)→Idx s G→a0W G l a→d0J (j0T l) s→P.length+8*(l+1)<1000000→ ∃s' G',g0P l a s=(.ok (),s')∧Inv s' G' P∧Stp (j0T l) 0 s G s' G'∧Sub G' G):
 ∀(ks:List Int) {s:St} {G:Gh},Inv s G (ks++P)→Idx s G→(∀k∈ks,a0W G l k)→d0J (ks.length*j0T l) s→P.length+ks.length+8*(l+1)<1000000→
 ∃s' G',d0V (g0P l) ks s=(.ok (),s')∧Inv s' G' P∧Stp (ks.length*j0T l) 0 s G s' G'∧Sub G' G
 | [],s,G,h,hi,_,_,_=>⟨s,G,rfl,h,(Stp.refl h hi).mono (by simp) (by omega),Sub.refl G⟩
 |x::ks,s,G,h,hi,hk,hr,hP=>by
  have hr':d0J (j0T l+ks.length*j0T l) s:=hr.le (by simp[Nat.succ_mul,Nat.add_comm]);simp only[List.length_cons]at hP;obtain⟨s1,G1,e1,i1,t1,b1⟩:=hone (P:=ks++P) h hi (hk x (List.mem_cons_self ..)) (hr'.le (by omega)) (by simp;omega);obtain⟨s2,G2,e2,i2,t2,b2⟩:=Inv.rlessL hone ks i1 t1.idx (fun y hy=>x0H b1 (hk y (List.mem_cons_of_mem _ hy)) (by
   by_cases h0:y=0
   ·exact .inl h0
   ·exact .inr (i1.pend (List.mem_append_left _ hy) h0))) (hr'.go t1.rel) (by omega)
  exact⟨s2,G2,by unfold d0V;rw[a0A e1,e2],i2,(t1.trans t2).mono (by simp[Nat.succ_mul,Nat.add_comm]) (by omega),b2.trans b1⟩
theorem Inv.rless: ∀(l:Nat) {s:St} {G:Gh} {P:List Int} {a:Int},Inv s G (a::P)→Idx s G→a0W G l a→d0J (j0T l) s→P.length+8*(l+1)<1000000→
 ∃s' G',g0P l a s=(.ok (),s')∧Inv s' G' P∧Stp (j0T l) 0 s G s' G'∧Sub G' G
 |0,s,G,P,a,h,hi,ha,hr,hP=>h.xless hi ha hr (by omega)
 |l+1,s,G,P,a,h,hi,ha,hr,hP=>by
  unfold Go.Sb.g0P;rcases ha with rfl| ⟨ks,sm,ho⟩
  ·exact⟨s,G,by rw[if_pos rfl];rfl,h.drop0,(Stp.refl h hi).mono (by omega) (by omega),Sub.refl G⟩
  rw[if_neg (h.ne0 ho),a0A (h.load ho)];obtain⟨_,t2,_,t4,_⟩:=h.typ a _ ho;have hr':d0J (4+8*j0T l) s:=hr;by_cases hn:f0C G P a=0
  ·obtain⟨s1,e1,i1,r1,q1,q2,q3,q4⟩:=h.less1 ho hr.d (by have:=hr'.l;omega) (by have:=hr'.g;omega) hn;rw[a0A e1];have hnk:a ∉ ks:=fun hm=>t0L ho hm (by unfold f0C at hn;omega);have hi1:Idx s1 (b0D a G):=fun k b=>by
    rw[q1,r1.bits,hi k b];constructor
    ·rintro⟨d,ats,hb,e⟩;refine⟨d,ats,?_,e⟩;rw[c0L a b h.nod,if_neg (fun e2=>by rw[←e2,ho]at hb;cases hb)];exact hb
    ·rintro⟨d,ats,hb,e⟩;exact⟨d,ats,a1Q h.nod b _ hb,e⟩
   obtain⟨s2,G2,e2,i2,u2,b2⟩:=Inv.rlessL (l:=l) (fun h hi ha hr hP=>Inv.rless l h hi ha hr hP) ks (s:=s1) (G:=b0D a G) (P:=P) i1 hi1 (fun k hm=>b2I h.nod (fun(e:k=a)=>hnk (by subst e;exact hm)) (t4 k hm)) (by rw[t2];exact hr'.go r1) (by omega);rw[t2]at u2;have hs1:Stp 4 0 s G s1 (b0D a G):=⟨r1,hi1,fun b o hb=> .inl (a1Q h.nod b o hb),q2,q3,q4,g1Q r1 q2⟩;exact⟨s2,G2,by simp only[if_true];exact e2,i2,(hs1.trans u2).mono (by simp only[j0T];omega) (by omega),b2.trans (a1Q h.nod)⟩
  ·obtain⟨s1,e1,i1,r1,q1,q2,q3,q4⟩:=h.less2 ho hr.d (by have:=hr'.l;omega) (by omega) hn;rw[a0A e1];exact⟨s1,G,rfl,i1,⟨r1.mono (by simp only[j0T];omega) (by omega),fun k b=>by rw[q1,r1.bits];exact hi k b,fun _ _ h=> .inl h,q2,q3,q4,g1Q r1 q2⟩,Sub.refl G⟩
end
end
section
def Fl {α:Type} (k:Nat) (C:Prop) (m:M α) (s:St):Prop:= ∃e s',m s=(.err e,s')∧(e=8∧(a0Y s:Int)<s.keep+k∨e=9∧C)
theorem Fl.here {α β:Type} {k k':Nat} {C C':Prop} {m:M α} {f:α→M β} {s:St} (h:Fl k C m s) (hk:k≤k') (hC:C→C'):Fl k' C' (a0B m f) s:=by
 obtain⟨e,s',h1,h2⟩:=h;exact⟨e,s',a0F h1,h2.imp (fun⟨a,b⟩=>⟨a,by omega⟩) (fun⟨a,b⟩=>⟨a,hC b⟩)⟩
theorem Fl.there {α β:Type} {c k1 k2 k':Nat} {C C':Prop} {m:M α} {f:α→M β} {s t:St} {a:α} (h:m s=(.ok a,t)) (r:Rel c k1 s t) (hkp:t.keep=s.keep) (j:Fl k2 C (f a) t) (hk:k1+k2≤k') (hC:C→C'):Fl k' C' (a0B m f) s:=by
 obtain⟨e,s',h1,h2⟩:=j;refine⟨e,s',by rw[a0A h];exact h1,h2.imp (fun⟨a,b⟩=>⟨a,?_⟩) (fun⟨a,b⟩=>⟨a,hC b⟩)⟩;have:=r.room;omega
theorem Fl.mono {α:Type} {k k':Nat} {C C':Prop} {m:M α} {s:St} (h:Fl k C m s) (hk:k≤k') (hC:C→C'):Fl k' C' m s:=by
 obtain⟨e,s',h1,h2⟩:=h;exact⟨e,s',h1,h2.imp (fun⟨a,b⟩=>⟨a,by omega⟩) (fun⟨a,b⟩=>⟨a,hC b⟩)⟩
section
variable {s:St} {G:Gh} {P:List Int}
theorem Inv.free_none (h:Inv s G P) {a:Int} (ha:k0G s a):a0C a G=none:=by
 cases hm:a0C a G with
 |none=>rfl
 |some u=>exact absurd (a1N ((h.held _).2 (by rw[hm];rfl)) ha) (by decide)
theorem Inv.same (h:Inv s G P) {G':Gh} (old: ∀b o,a0C b G'=some o→a0C b G=some o∨k0G s b) {b:Int} {o:Ob} (hl:(a0C b G).isSome=true) (hb:a0C b G'=some o):a0C b G=some o:=by
 rcases old b o hb with h1|h1
 ·exact h1
 ·rw[h.free_none h1]at hl;cases hl
theorem Inv.kidSame (h:Inv s G P) {G':Gh} (old: ∀b o,a0C b G'=some o→a0C b G=some o∨k0G s b) {l:Nat} {k:Int} (hk:a0W G l k) (hl:k=0∨(a0C k G').isSome=true):a0W G' l k:=by
 rcases hl with rfl|hl
 ·cases l<;>exact .inl rfl
 ·obtain⟨o,ho⟩:=Option.isSome_iff_exists.1 hl;rcases k0I hk with rfl|hg
  ·cases l<;>exact .inl rfl
  ·have h1:=h.same old hg ho;cases l with
   |zero=>
    rcases hk with rfl| ⟨d,ats,e⟩
    ·exact .inl rfl
    ·rw[e]at h1;cases h1;exact .inr ⟨d,ats,ho⟩
   |succ l=>
    rcases hk with rfl| ⟨d,ats,e⟩
    ·exact .inl rfl
    ·rw[e]at h1;cases h1;exact .inr ⟨d,ats,ho⟩
theorem Inv.leafSame (h:Inv s G P) {G':Gh} (old: ∀b o,a0C b G'=some o→a0C b G=some o∨k0G s b) (z':a0C 0 G'=none) {k:Int} (hk:a0W G 0 k) (hl:k=0∨(a0C k G').isSome=true):d0F G' k=d0F G k:=by
 rcases hl with rfl|hl
 ·unfold d0F;rw[z',h.zero]
 ·obtain⟨o,ho⟩:=Option.isSome_iff_exists.1 hl;rcases k0I hk with rfl|hg
  ·rw[z']at ho;cases ho
  ·unfold d0F;rw[ho,h.same old hg ho]
theorem u0K (hz:a0C 0 G=none): ∀(l j:Nat),c0P G l 0 j=0
 |0,j=>by
  unfold c0P b0G;rw[hz];have: ∀k,e0L.getD k 0=0:=fun k=>by
   rcases Nat.lt_or_ge k 8 with h|h
   ·have:=g0Z (l:=e0L) (i:=k) h;simpa [e0L] using this
   ·rw[List.getD_eq_getElem?_getD,List.getElem?_eq_none (by simpa [e0L] using h)];rfl
  exact this _
 |l+1,j=>by
  unfold c0P b0G;rw[hz];have: ∀k,e0L.getD k 0=0:=fun k=>by
   rcases Nat.lt_or_ge k 8 with h|h
   ·have:=g0Z (l:=e0L) (i:=k) h;simpa [e0L] using this
   ·rw[List.getD_eq_getElem?_getD,List.getElem?_eq_none (by simpa [e0L] using h)];rfl
  simp only[this];exact u0K hz l _
theorem Inv.mapSame (h:Inv s G P) {s':St} {G':Gh} {P':List Int} (h':Inv s' G' P') (old: ∀b o,a0C b G'=some o→a0C b G=some o∨k0G s b): ∀(l:Nat) {root:Int},a0W G (l+1) root→(root=0∨(a0C root G').isSome=true)→
 ∀j,c0P G' l root j=c0P G l root j∧a0W G 0 (c0P G l root j)∧(c0P G l root j=0∨(a0C (c0P G l root j) G').isSome=true)
 |l,root,hk,.inl e,j=>by
  subst e;rw[u0K h'.zero,u0K h.zero];exact⟨rfl,.inl rfl,.inl rfl⟩
 |0,root,hk,.inr hl,j=>by
  have hk':=h.kidSame old hk (.inr hl);have e:b0G G' root=b0G G root:=by
   rcases hk' with rfl| ⟨ks,sm,ho⟩
   ·unfold b0G;rw[h'.zero,h.zero]
   ·unfold b0G;rcases k0I hk with rfl|hg
    ·rw[h'.zero]at ho;cases ho
    ·rw[ho,h.same old hg ho]
  have hm:=(h'.kids hk').2 ((b0G G root).getD (b0Q 0 j).1 0) (by rw[e];exact g0Z (by rw[(h.kids hk).1];exact q0A 0 j));refine⟨by unfold c0P;rw[e],h.leafKid 0 hk j,?_⟩;exact k0I hm
 |l+1,root,hk,.inr hl,j=>by
  have hk':=h.kidSame old hk (.inr hl);have e:b0G G' root=b0G G root:=by
   rcases hk' with rfl| ⟨ks,sm,ho⟩
   ·unfold b0G;rw[h'.zero,h.zero]
   ·unfold b0G;rcases k0I hk with rfl|hg
    ·rw[h'.zero]at ho;cases ho
    ·rw[ho,h.same old hg ho]
  have hm:=(h'.kids hk').2 ((b0G G root).getD (b0Q (l+1) j).1 0) (by rw[e];exact g0Z (by rw[(h.kids hk).1];exact q0A (l+1) j));have hm0:=(h.kids hk).2 ((b0G G root).getD (b0Q (l+1) j).1 0) (g0Z (by rw[(h.kids hk).1];exact q0A (l+1) j));have ih:=h.mapSame h' old l hm0 (k0I hm) (b0Q (l+1) j).2;unfold c0P;rw[e];exact ih
theorem Inv.putN {o:Ob} (h:Inv s G (d0O o++P)) (hi:Idx s G) (hok:x0X G o) (hne: ∀d ats,o≠ .ext d ats) (hr:d0J 3 s):
 (∃a s',e0S (l0J o) s=(.ok a,s')∧Inv s' ((a,o)::G) (a::P)∧Stp 3 1 s G s' ((a,o)::G)∧a0C a G=none∧a≠0∧s'.index=s.index)∨Fl 1 False (e0S (l0J o)) s:=by
 by_cases hf:s.keep<(a0Y s:Int)
 ·have hl:(l0J o).length=64:=by
   cases o with
   |part b=>exact hok
   |ext d ats=>exact(hne d ats rfl).elim
   |node l ks sm=>
    obtain⟨t1,t2,t3,t4,t5⟩:=hok;exact(b2F (x:= {kids:=ks,sum:=sm}) (l:=l) (by omega) ⟨t2,fun x hx=>h.kid_range (t4 x hx),by rw[t5];exact t0M _ _⟩).2
  obtain⟨a,s',e,i,r,hfr,q1,q2,q3,q4⟩:=h.put hok hl hr.d (by have:=hr.l;omega) hf;have hn:=h.free_none hfr;have hi':Idx s' ((a,o)::G):=fun k b=>by
   rw[q1,r.bits,hi k b];constructor
   ·rintro⟨d,ats,hb,e⟩;exact⟨d,ats,by rw[d0G,if_neg (fun e2=>by rw[←e2,hn]at hb;cases hb)];exact hb,e⟩
   ·rintro⟨d,ats,hb,e⟩;rw[d0G]at hb;split at hb
    ·cases hb;exact(hne d ats rfl).elim
    ·exact⟨d,ats,hb,e⟩
  refine .inl ⟨a,s',e,i,⟨r,hi',fun b u hb=> ?_,q2,q3,q4,fun _=>by have:=r.room;omega⟩,hn,i.ne0 (o:=o) (by rw[d0G,if_pos rfl]),q1⟩;rw[d0G]at hb;split at hb
  ·rename_i e2;exact .inr (e2▸hfr)
  ·exact .inl hb
 ·exact .inr ⟨8,s,by unfold e0S;rw[if_pos (by omega)],.inl ⟨rfl,by omega⟩⟩
theorem Inv.xputs {d:B} (hd:d.length=256): ∀(n:Nat),n≤4→ ∀ {s:St} {G:Gh} {P:List Int},Inv s G P→Idx s G→d0J (n*3) s→
 (∃ps s' G',n0I d n s=(.ok ps,s')∧Inv s' G' (ps.map (·.1)++P)∧Stp (n*3) n s G s' G'∧ps.length=n∧s'.index=s.index∧
  (∀b o,a0C b G=some o→a0C b G'=some o)∧
  ∀i,i<n→if a0R (part d (4-n+i))=true then ps.getD i (0,0)=(0,0)else(ps.getD i (0,0)).1≠0∧a0C (ps.getD i (0,0)).1 G'=some (.part (part d (4-n+i)))∧(ps.getD i (0,0)).2=g0G (part d (4-n+i)))∨
 Fl n False (n0I d n) s
 |0,_,s,G,P,h,hi,_=> .inl ⟨[],s,G,rfl,h,(Stp.refl h hi).mono (by omega) (by omega),rfl,rfl,fun _ _ h=>h,fun i hi=>by omega⟩
 |n+1,hn,s,G,P,h,hi,hr=>by
  have hr':d0J (3+n*3) s:=hr.le (by omega);unfold Go.Sb.n0I;simp only;have hone:(∃p s1 G1,(if a0R (part d (4- (n+1)))=true then ret (0,0)else a0B (e0S (part d (4- (n+1)))) fun a=>ret (a,g0G (part d (4- (n+1)))):M (Int×Nat)) s=(.ok p,s1)∧Inv s1 G1 (p.1::P)∧Stp 3 1 s G s1 G1∧s1.index=s.index∧
   (∀b o,a0C b G=some o→a0C b G1=some o)∧
   if a0R (part d (4- (n+1)))=true then p=(0,0)else p.1≠0∧a0C p.1 G1=some (.part (part d (4- (n+1))))∧p.2=g0G (part d (4- (n+1))))∨
   Fl 1 False (if a0R (part d (4- (n+1)))=true then ret (0,0)else a0B (e0S (part d (4- (n+1)))) fun a=>ret (a,g0G (part d (4- (n+1)))):M (Int×Nat)) s:=by
   by_cases hz:a0R (part d (4- (n+1)))=true
   ·simp only[if_pos hz];exact .inl ⟨(0,0),s,G,rfl,h.add0,(Stp.refl h hi).mono (by omega) (by omega),rfl,fun _ _ h=>h,rfl⟩
   ·simp only[if_neg hz];rcases Inv.putN (o:= .part (part d (4- (n+1)))) (P:=P) h hi (j1F hd (by omega)) (fun _ _ e=>by cases e) (hr'.le (by omega))with ⟨a,s1,e1,i1,t1,hn1,ha0,x1⟩|hf
    ·refine .inl ⟨(a,g0G (part d (4- (n+1)))),s1,_,?_,i1,t1,x1,fun b o hb=> ?_,ha0,by rw[d0G,if_pos rfl],rfl⟩
     ·have e1':e0S (part d (4- (n+1))) s=(.ok a,s1):=e1;rw[a0A e1'];rfl
     ·rw[d0G,if_neg (fun e=>by rw[←e,hn1]at hb;cases hb)];exact hb
    ·exact .inr (Fl.here (m:=e0S (part d (4- (n+1)))) hf (Nat.le_refl _) id)
  rcases hone with ⟨p,s1,G1,e1,i1,t1,x1,k1,c1⟩|hf
  ·rcases Inv.xputs hd n (by omega) i1 t1.idx (hr'.go t1.rel)with ⟨ps,s2,G2,e2,i2,t2,l2,x2,k2,c2⟩|hf
   ·refine .inl ⟨p::ps,s2,G2,by rw[a0A e1,a0A e2];rfl,i2.perm fun x hx=> ?_,(t1.trans t2).mono (by omega) (by omega),by simp[l2],x2.trans x1,fun b o hb=>k2 b o (k1 b o hb),fun i hi=> ?_⟩
    ·simp only[List.map_cons,List.cons_append,List.count_append,List.count_cons];omega
    ·cases i with
     |zero=>
      simp only[Nat.add_zero,List.getD_cons_zero];split at c1
      ·rename_i hz;rw[if_pos hz];exact c1
      ·rename_i hz;rw[if_neg hz];exact⟨c1.1,k2 _ _ c1.2.1,c1.2.2⟩
     |succ i=>
      have:=c2 i (by omega);rw[show 4- (n+1)+(i+1)=4-n+i by omega];simpa only[List.getD_cons_succ] using this
   ·exact .inr (Fl.there e1 t1.rel t1.keep (hf.here (Nat.le_refl _) id) (by omega) id)
  ·exact .inr (hf.here (by omega) id)
def g1R (G:Gh) (bits:Nat) (data:B):Prop:= ∃a d ats,a0C a G=some (.ext d ats)∧d≠data∧key bits (Sha.sum d)=key bits (Sha.sum data)
theorem Inv.xput (h:Inv s G P) (hi:Idx s G) {data:B} (hd:data.length=256) (hr:d0J 16 s) (hP:P.length≤1000000):
 (∃a s' G',j0E data s=(.ok a,s')∧Inv s' G' (a::P)∧Stp 16 5 s G s' G'∧a0W G' 0 a∧d0F G' a=data∧(a0R data=false→ ¬g1R G s.bits data))∨Fl 5 (a0R data=false∧g1R G s.bits data) (j0E data) s:=by
 unfold Go.Sb.j0E;rw[if_neg (by omega)];by_cases hz:a0R data=true
 ·rw[if_pos hz];refine .inl ⟨0,s,G,rfl,h.add0,(Stp.refl h hi).mono (by omega) (by omega),.inl rfl,?_,fun e=>by rw[hz]at e;cases e⟩;unfold d0F;rw[h.zero,b1X hz hd]
 ·rw[if_neg hz];have hz':a0R data=false:=by simpa using hz
  cases hm:a0C (key s.bits (Sha.sum data)) s.index with
  |some a=>
   obtain⟨d,ats,ho,hk⟩:=(hi _ _).1 hm;have hone: ∀b d' ats',a0C b G=some (.ext d' ats')→key s.bits (Sha.sum d')=key s.bits (Sha.sum data)→b=a:=fun b d' ats' hb e=>by
    have:=(hi (key s.bits (Sha.sum data)) b).2 ⟨d',ats',hb,e.symm⟩;rw[hm]at this;cases this;rfl
   by_cases hdd:d=data
   ·subst hdd;obtain⟨s1,e1,i1,r1,q1,q2,q3,q4⟩:=h.more ho (fun _ e=>by cases e) hr.d (by have:=hr.l;omega) hP;refine .inl ⟨a,s1,G,?_,i1,⟨r1.mono (by omega) (by omega),fun k b=>by rw[q1,r1.bits];exact hi k b,fun _ _ h=> .inl h,q2,q3,q4,g1Q r1 q2⟩,.inr ⟨d,ats,ho⟩,by unfold d0F;rw[ho],?_⟩
    ·simp only[hm];rw[a0A (h.xget ho)];show(if d≠d then n0L 9 else a0B (k0S a) fun _=>ret a:M Int) s=_;rw[if_neg (by simp),a0A e1];rfl
    ·rintro _ ⟨b,d',ats',hb,hne,e⟩;have:=hone b d' ats' hb e;subst this;rw[ho]at hb;cases hb;exact hne rfl
   ·refine .inr ⟨9,s,?_,.inr ⟨rfl,hz',a,d,ats,ho,hdd,hk.symm⟩⟩;simp only[hm];rw[a0A (h.xget ho)];show(if d≠data then n0L 9 else a0B (k0S a) fun _=>ret a:M Int) s=_;rw[if_pos hdd];rfl
  |none=>
   have hnc: ¬g1R G s.bits data:=by
    rintro⟨b,d',ats',hb,_,e⟩;have:=(hi (key s.bits (Sha.sum data)) b).2 ⟨d',ats',hb,e.symm⟩;rw[hm]at this;cases this
   rcases h.xputs hd 4 (Nat.le_refl _) hi (hr.le (by omega))with ⟨ps,s1,G1,e1,i1,t1,l1,x1,k1,c1⟩|hf
   ·have hmap: ∀i,(ps.map (·.1)).getD i 0=(ps.getD i (0,0)).1:=fun i=>by
     rw[List.getD_eq_getElem?_getD,List.getD_eq_getElem?_getD,List.getElem?_map];cases ps[i]? <;>rfl
    have hok:x0X G1 (.ext data (ps.map (·.1))):=by
     refine⟨hd,hz',by simp[l1],fun k hk=> ?_⟩;have:=c1 k hk;rw[show 4-4+k=k by omega]at this;unfold v0S;split at this
     ·rename_i hz;rw[if_pos hz,hmap,this]
     ·rename_i hz;rw[if_neg hz,hmap];exact⟨this.1,this.2.1⟩
    have hsums:ps.map (·.2)=(List.range 4).map fun k=>if a0R (part data k)then 0 else g0G (part data k):=by
     apply List.ext_getElem?;intro i;by_cases hi4:i<4
     ·have:=c1 i hi4;rw[show 4-4+i=i by omega]at this;have hg:ps[i]? =some (ps.getD i (0,0)):=by rw[List.getD_eq_getElem?_getD,List.getElem?_eq_getElem (by omega)];rfl
      rw[List.getElem?_map,hg,List.getElem?_map,List.getElem?_range hi4];split at this
      ·rename_i hz;rw[this];simp[hz]
      ·rename_i hz;simp only[Option.map_some,this.2.2,hz];rfl
     ·rw[List.getElem?_eq_none (by simp;omega),List.getElem?_eq_none (by simp;omega)]
    have hbytes:h0Z {at_:=ps.map (·.1),sums:=ps.map (·.2),sum:=Sha.sum data} =l0J (.ext data (ps.map (·.1))):=by
     show _=h0Z (m0K _ _);unfold m0K;rw[hsums]
    have hr1:d0J 4 s1:=(hr.le (by omega):d0J (4*3+4) s).go t1.rel;by_cases hf:s1.keep<(a0Y s1:Int)
    ·have hl64:(l0J (.ext data (ps.map (·.1)))).length=64:=by
      refine(b2E ⟨by simp[m0K,l1],fun x hx=> ?_,by simp[m0K],fun c hc=> ?_,p0Z _⟩).2
      ·rcases z0B hok x hx with rfl| ⟨b,hb⟩
       ·omega
       ·have:=i1.range hb;omega
      ·obtain⟨k,_,rfl⟩:=List.mem_map.1 hc;split
       ·decide
       ·exact Nat.lt_of_lt_of_eq (g1P _) (by decide)
     obtain⟨a,s2,e2,i2,r2,hfr,q1,q2,q3,q4⟩:=Inv.put (o:= .ext data (ps.map (·.1))) (P:=P) i1 hok hl64 hr1.d (by have:=hr1.l;omega) hf;have hr2:d0J 1 s2:=(hr1.le (by omega):d0J (3+1) s1).go r2;have e3:f0F (key s2.bits (Sha.sum data)) a s2=(.ok (),{s2 with log:=bk s2.depth s2.log (.index (key s2.bits (Sha.sum data)) (a0C (key s2.bits (Sha.sum data)) s2.index)),index:=b0O (key s2.bits (Sha.sum data)) a s2.index}):=by
      have:=hr2.l;simp[f0F,a0B,back,show ¬1000000000≤s2.log.length by omega]
     have r3:=h1O (key s2.bits (Sha.sum data)) a s2 hr2.d i2.u (by rw[e3];simp);rw[e3]at r3;have hn:=i1.free_none hfr;have hb2:s2.bits=s.bits:=r2.bits.trans t1.rel.bits;have hidx: ∀k b,a0C k s1.index=some b↔ ∃d ats,a0C b G1=some (.ext d ats)∧k=key s.bits (Sha.sum d):=fun k b=>by
      have:=t1.idx k b;rw[t1.rel.bits]at this;exact this
     refine .inl ⟨a,_,(a,.ext data (ps.map (·.1)))::G1,?_,⟨r3.ok,i2.nod,i2.lo,i2.hi,i2.refs,i2.live,i2.zero,i2.held,i2.disk,i2.typ,i2.cnt,i2.lone⟩,⟨((t1.rel.trans r2).trans r3).mono (by omega) (by omega),fun k b=> ?_,fun b o hb=> ?_,q2.trans t1.keep,q3.trans t1.vols,q4.trans t1.next,fun _=>(by have:=r2.room;show s2.keep≤(a0Y s2:Int);omega)⟩,.inr ⟨data,_,by rw[d0G,if_pos rfl]⟩,by unfold d0F;rw[d0G,if_pos rfl],fun _=>hnc⟩
     ·simp only[hm];rw[a0A e1];simp only[hbytes];rw[a0A e2];show a0B (fun s=>f0F (key s.bits (Sha.sum data)) a s) _ s2=_;rw[a0A (m:=fun s=>f0F (key s.bits (Sha.sum data)) a s) e3];rfl
     ·show a0C k (b0O (key s2.bits (Sha.sum data)) a s2.index)=some b↔ ∃d' ats',a0C b ((a,Ob.ext data (ps.map (·.1)))::G1)=some (Ob.ext d' ats')∧k=key s2.bits (Sha.sum d');rw[f0N,hb2,q1];constructor
      ·intro hk;split at hk
       ·rename_i e;cases hk;exact⟨data,_,by rw[d0G,if_pos rfl],e.symm⟩
       ·obtain⟨d',ats',hb,e⟩:=(hidx k b).1 hk;exact⟨d',ats',by rw[d0G,if_neg (fun e2=>by rw[←e2,hn]at hb;cases hb)];exact hb,e⟩
      ·rintro⟨d',ats',hb,e⟩;rw[d0G]at hb;split at hb
       ·rename_i e2;cases hb;subst e2;rw[if_pos e.symm]
       ·have hk:=(hidx k b).2 ⟨d',ats',hb,e⟩;rw[if_neg]
        ·exact hk
        ·intro e2;rw[x1,←e2,hm]at hk;cases hk
     ·rw[d0G]at hb;split at hb
      ·rename_i e;subst e;exact .inr (t1.rel.free _ hfr)
      ·exact t1.old b o hb
    ·refine .inr ⟨8,s1,?_,.inl ⟨rfl,?_⟩⟩
     ·simp only[hm];rw[a0A e1];refine a0F ?_;unfold e0S;rw[if_pos (by omega)]
     ·have:=t1.rel.room;have:=t1.keep;omega
   ·refine .inr ?_;obtain⟨e,s',h1,h2⟩:=hf;refine⟨e,s',by simp only[hm];exact a0F h1,h2.imp (fun⟨a,b⟩=>⟨a,by omega⟩) (fun⟨_,b⟩=>b.elim)⟩
end
end
section
theorem a1R: ∀ {l:List Int} {k:Nat} (_:k<l.length) (r x:Int),(l.set k r).count x=(if r=x then 1 else 0)+(l.eraseIdx k).count x
 | [],k,h,_,_=>by simp at h
 |y::l,0,_,r,x=>by simp only[List.set_cons_zero,List.eraseIdx_cons_zero,List.count_cons,beq_iff_eq];omega
 |y::l,k+1,h,r,x=>by
  have:=a1R (l:=l) (k:=k) (by simpa using h) r x;simp only[List.set_cons_succ,List.eraseIdx_cons_succ,List.count_cons];omega
theorem b2J {l:List Int} {k:Nat} (h:k<l.length) (x:Int):l.count x=(if l.getD k 0=x then 1 else 0)+(l.eraseIdx k).count x:=by
 have h1:=a1R h (l.getD k 0) x;have e:l.set k (l.getD k 0)=l:=by
  rw[List.getD_eq_getElem?_getD,List.getElem?_eq_getElem h];exact List.set_getElem_self h
 rw[e]at h1;exact h1
theorem s0I (r x:Int) (l:List Int):(r::l).count x=(if r=x then 1 else 0)+l.count x:=by
 rw[List.count_cons];by_cases e:r=x<;>simp[e]<;>omega
theorem e1L {l:List Int} {k:Nat} {x:Int} (h:x∈l.eraseIdx k):x∈l:=List.mem_of_mem_eraseIdx h
theorem b2K {l:List Int} {k:Nat} (hk:k<l.length) {r x:Int} (h:x∈l.set k r):x=r∨x∈l.eraseIdx k:=by
 have h1:=List.count_pos_iff.2 h;rw[a1R hk]at h1;by_cases e:r=x
 ·exact .inl e.symm
 ·rw[if_neg e]at h1;exact .inr (List.count_pos_iff.1 (by omega))
section
variable {s:St} {G:Gh} {P:List Int}
theorem x2T {l:Nat} {a:Int} {o:Ob} (hk:a0W G l a) (h0:a≠0) (ho:a0C a G=some o): ∀b,o≠ .part b:=fun b e=>by
 subst e;cases l with
 |zero=>obtain⟨d,ats,e⟩:=hk.resolve_left h0;rw[ho]at e;cases e
 |succ l=>obtain⟨d,ats,e⟩:=hk.resolve_left h0;rw[ho]at e;cases e
theorem Inv.mores (l:Nat): ∀(ks:List Int) {s:St} {P:List Int},Inv s G P→Idx s G→(∀k∈ks,a0W G l k)→d0J ks.length s→P.length+ks.length≤1000000→
 ∃s',d0V (h0E · l) ks s=(.ok (),s')∧Inv s' G (ks++P)∧Stp ks.length 0 s G s' G
 | [],s,P,h,hi,_,_,_=>⟨s,rfl,h,Stp.refl h hi⟩
 |x::ks,s,P,h,hi,hk,hr,hP=>by
  simp only[List.length_cons]at hr hP;have hr':d0J (1+ks.length) s:=hr.le (by omega);have one: ∃s1,h0E x l s=(.ok (),s1)∧Inv s1 G (x::P)∧Stp 1 0 s G s1 G:=by
   by_cases h0:x=0
   ·subst h0;exact⟨s,by unfold h0E;rw[if_pos rfl];rfl,h.add0,(Stp.refl h hi).mono (by omega) (by omega)⟩
   ·have hl:(a0C x G).isSome=true:=(k0I (hk x (List.mem_cons_self ..))).resolve_left h0;obtain⟨o,ho⟩:=Option.isSome_iff_exists.1 hl;obtain⟨s1,e1,i1,r1,q1,q2,q3,q4⟩:=h.more ho (x2T (hk x (List.mem_cons_self ..)) h0 ho) hr.d (by have:=hr.l;omega) (by omega);refine⟨s1,?_,i1,r1,fun k b=>by rw[q1,r1.bits];exact hi k b,fun _ _ h=> .inl h,q2,q3,q4,g1Q r1 q2⟩;unfold h0E;rw[if_neg h0];split
    ·unfold t0K;rw[if_neg h0];exact e1
    ·exact e1
  obtain⟨s1,e1,i1,t1⟩:=one;obtain⟨s2,e2,i2,t2⟩:=Inv.mores l ks i1 t1.idx (fun y hy=>hk y (List.mem_cons_of_mem _ hy)) (hr'.go t1.rel) (by simp;omega);refine⟨s2,by unfold d0V;rw[a0A e1];exact e2,i2.perm fun y hy=> ?_,(t1.trans t2).mono (by simp;omega) (by omega)⟩;simp only[List.count_append,List.cons_append,List.count_cons];omega
theorem e2J (k:Nat):e0L.getD k 0=0:=by
 rcases Nat.lt_or_ge k 8 with h|h
 ·have:=g0Z (l:=e0L) (i:=k) h;simpa [e0L] using this
 ·rw[List.getD_eq_getElem?_getD,List.getElem?_eq_none (by simpa [e0L] using h)];rfl
theorem t1S {l:List Int} {k j:Nat} (hk:k<l.length) (r:Int):(l.set k r).getD j 0=if j=k then r else l.getD j 0:=by
 rw[List.getD_eq_getElem?_getD,List.getD_eq_getElem?_getD];by_cases e:j=k
 ·subst e;rw[List.getElem?_set_self hk];simp
 ·rw[List.getElem?_set_ne (Ne.symm e),if_neg e]
theorem Inv.renew (l:Nat) {ks:List Int} (h:Inv s G (ks++P)) (hi:Idx s G) (hl:l<3) (h8:ks.length=8) (hk: ∀k∈ks,a0W G l k) (hr:d0J 3 s):
 (∃r s' G',(if ks=e0L then ret 0 else a0B (Go.Sb.h0F l ks) fun ss=>e0S (j0L l {kids:=ks,sum:=e0H l ss}):M Int) s=(.ok r,s')∧Inv s' G' (r::P)∧Stp 3 1 s G s' G'∧a0W G' (l+1) r∧b0G G' r=ks∧(∀b o,a0C b G=some o→a0C b G'=some o))∨
 Fl 1 False (if ks=e0L then ret 0 else a0B (Go.Sb.h0F l ks) fun ss=>e0S (j0L l {kids:=ks,sum:=e0H l ss}):M Int) s:=by
 by_cases hz:ks=e0L
 ·simp only[if_pos hz];refine .inl ⟨0,s,G,rfl,h.perm fun x hx=> ?_,(Stp.refl h hi).mono (by omega) (by omega),.inl rfl,by unfold b0G;rw[h.zero,hz],fun _ _ h=>h⟩;rw[hz,List.count_append,s0I,if_neg (Ne.symm hx)];have:e0L.count x=0:=List.count_eq_zero.2 fun hm=>hx (by simpa [e0L] using hm);omega
 ·simp only[if_neg hz];have e0:=h.rsums l ks hk;have hok:x0X G (.node l ks (e0H l (ks.map (d0R G)))):=⟨hl,h8,hz,hk,rfl⟩;rcases Inv.putN (o:= .node l ks (e0H l (ks.map (d0R G)))) (P:=P) h hi hok (fun _ _ e=>by cases e) hr with ⟨a,s',e1,i1,t1,hn,ha0,_⟩|hf
  ·refine .inl ⟨a,s',_,by rw[a0A e0];exact e1,i1,t1,.inr ⟨_,_,by rw[d0G,if_pos rfl]⟩,by unfold b0G;rw[d0G,if_pos rfl],fun b o hb=> ?_⟩;rw[d0G,if_neg (fun e=>by rw[←e,hn]at hb;cases hb)];exact hb
  ·obtain⟨e,s',h1,h2⟩:=hf;exact .inr ⟨e,s',by rw[a0A e0];exact h1,h2⟩
theorem l1K {G':Gh} (hs: ∀b o,a0C b G=some o→a0C b G'=some o) {k:Int} {l:Nat} (hk:a0W G l k):k=0∨(a0C k G').isSome=true:=by
 rcases k0I hk with h|h
 ·exact .inl h
 ·obtain⟨o,ho⟩:=Option.isSome_iff_exists.1 h;exact .inr (by rw[hs _ _ ho];rfl)
theorem t0N {l at_:Nat} (h:at_<8^(l+1)):at_=(b0Q l at_).1*8^l+(b0Q l at_).2∧(b0Q l at_).2<8^l:=by
 have hp:0<8^l:=Nat.pos_of_ne_zero (by simp);have h1:at_/8^l<8:=by rw[Nat.div_lt_iff_lt_mul hp,Nat.mul_comm];rw[Nat.pow_succ]at h;exact h
 unfold b0Q;simp only;rw[Nat.mod_eq_of_lt h1,Nat.mul_comm];exact⟨(Nat.div_add_mod _ _).symm,Nat.mod_lt _ hp⟩
theorem b2L {l a b:Nat} (ha:a<8^(l+1)) (hb:b<8^(l+1)):(b0Q l a).1=(b0Q l b).1∧(b0Q l a).2=(b0Q l b).2↔a=b:=by
 constructor
 ·rintro⟨h1,h2⟩;rw[(t0N ha).1,(t0N hb).1,h1,h2]
 ·rintro rfl;exact⟨rfl,rfl⟩
theorem Inv.rset: ∀(l:Nat) {s:St} {G:Gh} {P:List Int} {root:Int} {at_:Nat} {to_:Int},Inv s G (root::to_::P)→Idx s G→a0W G (l+1) root→a0W G 0 to_→l<3→at_<8^(l+1)→d0J (g0H l) s→P.length+100+100*l≤900000→
 (∃r s' G',Go.Sb.i0W l root at_ to_ s=(.ok r,s')∧Inv s' G' (r::P)∧Stp (g0H l) (l+1) s G s' G'∧a0W G' (l+1) r∧ ∀j,j<8^(l+1)→c0P G' l r j=if j=at_ then to_ else c0P G l root j)∨
 Fl (l+1) False (Go.Sb.i0W l root at_ to_) s:=by
 intro l
 induction l with
 |zero=>
  intro s G P root at_ to_ h hi hroot hto hl hat hr hP;have hk8:=h.kids hroot;have hsl:(b0Q 0 at_).1<(b0G G root).length:=by rw[hk8.1];exact q0A 0 at_
  have hrm:d0J (8+(j0T 1+(21+3))) s:=hr.le (by decide);have e0:=h.loadK hroot;obtain⟨s1,e1,i1,t1⟩:=Inv.mores 0 (b0G G root) h hi hk8.2 (by rw[hk8.1];exact hrm.le (by omega)) (by simp;omega);rw[hk8.1]at t1;have hr1:=hrm.go t1.rel;have i1':Inv s1 G (root::(b0G G root++to_::P)):=i1.perm fun x hx=>by simp only[List.count_append,List.count_cons];omega
  obtain⟨s2,G2,e2,i2,t2,b2⟩:=Inv.rless 1 i1' t1.idx hroot (hr1.le (by omega)) (by simp;omega);have hr2:d0J (21+3) s2:=hr1.go t2.rel;have i2':Inv s2 G2 ((b0G G root).getD (b0Q 0 at_).1 0::((b0G G root).eraseIdx (b0Q 0 at_).1++to_::P)):=i2.perm fun x hx=>by
   rw[s0I,List.count_append,List.count_append,b2J hsl x];omega
  have hkk:a0W G2 0 ((b0G G root).getD (b0Q 0 at_).1 0):=x0H b2 (hk8.2 _ (g0Z hsl)) (by
   by_cases h0:(b0G G root).getD (b0Q 0 at_).1 0=0
   ·exact .inl h0
   ·exact .inr (i2'.pend (List.mem_cons_self ..) h0))
  obtain⟨s3,G3,e3,i3,t3,b3⟩:=i2'.xless t2.idx hkk (hr2.le (by omega)) (by simp;rw[List.length_eraseIdx];split<;>omega);have hr3:d0J 3 s3:=hr2.go t3.rel;have b13:Sub G3 G:=b3.trans b2;have i3':Inv s3 G3 ((b0G G root).set (b0Q 0 at_).1 to_++P):=i3.perm fun x hx=>by
   rw[List.count_append,List.count_append,s0I,a1R hsl];omega
  have hks: ∀k∈(b0G G root).set (b0Q 0 at_).1 to_,a0W G3 0 k:=fun k hm=>by
   have hp:=i3'.pend (x:=k) (List.mem_append_left _ hm);refine x0H b13 ?_ (if h0:k=0 then .inl h0 else .inr (hp h0));rcases b2K hsl hm with rfl|h1
   ·exact hto
   ·exact hk8.2 _ (e1L h1)
  have eset:Go.Sb.i0W 0 root at_ to_ s=(if(b0G G root).set (b0Q 0 at_).1 to_=e0L then ret 0 else a0B (Go.Sb.h0F 0 ((b0G G root).set (b0Q 0 at_).1 to_)) fun ss=>e0S (j0L 0 {kids:=(b0G G root).set (b0Q 0 at_).1 to_,sum:=e0H 0 ss}):M Int) s3:=by
   unfold Go.Sb.i0W;rw[a0A e0];simp only;rw[a0A e1,a0A (show v0D root 0 s1=_ from e2),a0A (show(a0B (Go.Sb.g0O ((b0G G root).getD (b0Q 0 at_).1 0)) fun _=>ret to_) s2=(.ok to_,s3) by rw[a0A e3];rfl)]
  have t123:=(t1.trans t2).trans t3;rcases Inv.renew 0 i3' t3.idx (by omega) (by simp[hk8.1]) hks hr3 with ⟨r,s4,G4,e4,i4,t4,k4,q4,sup4⟩|hf
  ·refine .inl ⟨r,s4,G4,by rw[eset,e4],i4,(t123.trans t4).mono (by simp only[g0H];omega) (by omega),k4,fun j hj=> ?_⟩;unfold c0P;rw[q4,t1S hsl];have:=b2L (l:=0) hj hat;have h2:(b0Q 0 j).2=(b0Q 0 at_).2:=by simp[b0Q,Nat.mod_one]
   by_cases e:j=at_
   ·rw[if_pos e,if_pos (by rw[e])]
   ·rw[if_neg e,if_neg (fun e2=>e (this.1 ⟨e2,h2⟩))]
  ·obtain⟨e,s',h1,h2⟩:=hf;refine .inr ⟨e,s',by rw[eset,h1],h2.imp (fun⟨a,b⟩=>⟨a,?_⟩) id⟩;have:=t123.rel.room;have:=t123.keep;omega
 |succ l ih=>
  intro s G P root at_ to_ h hi hroot hto hl hat hr hP;have hk8:=h.kids hroot;have hsl:(b0Q (l+1) at_).1<(b0G G root).length:=by rw[hk8.1];exact q0A (l+1) at_
  have hrm:d0J (8+(j0T (l+2)+(g0H l+3))) s:=hr.le (by simp only[g0H];omega);have e0:=h.loadK hroot;obtain⟨s1,e1,i1,t1⟩:=Inv.mores (l+1) (b0G G root) h hi hk8.2 (by rw[hk8.1];exact hrm.le (by omega)) (by simp;omega);rw[hk8.1]at t1;have hr1:=hrm.go t1.rel;have i1':Inv s1 G (root::(b0G G root++to_::P)):=i1.perm fun x hx=>by simp only[List.count_append,List.count_cons];omega
  obtain⟨s2,G2,e2,i2,t2,b2⟩:=Inv.rless (l+2) i1' t1.idx hroot (hr1.le (by omega)) (by simp;omega);have hr2:d0J (g0H l+3) s2:=hr1.go t2.rel;have i2':Inv s2 G2 ((b0G G root).getD (b0Q (l+1) at_).1 0::to_::((b0G G root).eraseIdx (b0Q (l+1) at_).1++P)):=i2.perm fun x hx=>by
   rw[s0I,s0I,List.count_append,List.count_append,s0I,b2J hsl x];omega
  have live2: ∀k∈b0G G root,a0W G2 (l+1) k:=fun k hm=>x0H b2 (hk8.2 _ hm) (by
   by_cases h0:k=0
   ·exact .inl h0
   ·exact .inr (i2.pend (List.mem_append_left _ hm) h0))
  have hto2:a0W G2 0 to_:=x0H b2 hto (by
   by_cases h0:to_=0
   ·exact .inl h0
   ·exact .inr (i2'.pend (List.mem_cons_of_mem _ (List.mem_cons_self ..)) h0))
  have hrest:=(t0N hat).2;rcases ih (at_:=(b0Q (l+1) at_).2) i2' t2.idx (live2 _ (g0Z hsl)) hto2 (by omega) hrest (hr2.le (by omega)) (by simp;rw[List.length_eraseIdx];split<;>omega)with ⟨r,s3,G3,e3,i3,t3,k3,c3⟩|hf
  ·have hr3:d0J 3 s3:=hr2.go t3.rel;have i3':Inv s3 G3 ((b0G G root).set (b0Q (l+1) at_).1 r++P):=i3.perm fun x hx=>by
    rw[s0I,List.count_append,List.count_append,a1R hsl];omega
   have live3: ∀k∈(b0G G root).eraseIdx (b0Q (l+1) at_).1,k=0∨(a0C k G3).isSome=true:=fun k hm=>by
    by_cases h0:k=0
    ·exact .inl h0
    ·exact .inr (i3.pend (List.mem_cons_of_mem _ (List.mem_append_left _ hm)) h0)
   have hks: ∀k∈(b0G G root).set (b0Q (l+1) at_).1 r,a0W G3 (l+1) k:=fun k hm=>by
    rcases b2K hsl hm with rfl|h1
    ·exact k3
    ·exact i2.kidSame t3.old (live2 _ (e1L h1)) (live3 _ h1)
   have eset:Go.Sb.i0W (l+1) root at_ to_ s=(if(b0G G root).set (b0Q (l+1) at_).1 r=e0L then ret 0 else a0B (Go.Sb.h0F (l+1) ((b0G G root).set (b0Q (l+1) at_).1 r)) fun ss=>e0S (j0L (l+1) {kids:=(b0G G root).set (b0Q (l+1) at_).1 r,sum:=e0H (l+1) ss}):M Int) s3:=by
    conv=>lhs;unfold Go.Sb.i0W
    rw[a0A e0];simp only;rw[a0A e1,a0A (show v0D root (l+1) s1=_ from e2),a0A e3]
   have t123:=(t1.trans t2).trans t3;rcases Inv.renew (l+1) i3' t3.idx hl (by simp[hk8.1]) hks hr3 with ⟨r',s4,G4,e4,i4,t4,k4,q4,sup4⟩|hf
   ·refine .inl ⟨r',s4,G4,by rw[eset,e4],i4,(t123.trans t4).mono (by simp only[g0H];omega) (by omega),k4,fun j hj=> ?_⟩;have hjs:=t0N hj;have old24: ∀b o,a0C b G4=some o→a0C b G2=some o∨k0G s2 b:=(t3.trans t4).old;have old14: ∀b o,a0C b G4=some o→a0C b G=some o∨k0G s b:=(t123.trans t4).old
    conv=>lhs;unfold c0P
    rw[q4,t1S hsl];have hse:=b2L (l:=l+1) hj hat;by_cases e1:(b0Q (l+1) j).1=(b0Q (l+1) at_).1
    ·rw[if_pos e1];have m3:=i3.mapSame i4 t4.old l k3 (l1K sup4 k3) (b0Q (l+1) j).2;rw[m3.1,c3 _ hjs.2];by_cases e:j=at_
     ·rw[if_pos e,if_pos (by rw[e])]
     ·rw[if_neg e,if_neg (fun e2=>e (hse.1 ⟨e1,e2⟩))];have m2:=h.mapSame i2 (fun b o hb=> .inl (b2 b o hb)) l (hk8.2 _ (g0Z hsl)) (k0I (live2 _ (g0Z hsl))) (b0Q (l+1) j).2;rw[m2.1]
      conv=>rhs;unfold c0P
      rw[e1]
    ·rw[if_neg e1,if_neg (fun e=>e1 (by rw[e]))];have hsj:(b0Q (l+1) j).1<(b0G G root).length:=by rw[hk8.1];exact q0A (l+1) j
     have hm:(b0G G root).getD (b0Q (l+1) j).1 0∈(b0G G root).eraseIdx (b0Q (l+1) at_).1:=by
      rw[List.mem_eraseIdx_iff_getElem?];exact⟨(b0Q (l+1) j).1,e1,by rw[List.getD_eq_getElem?_getD,List.getElem?_eq_getElem hsj];rfl⟩
     have hk3:=i2.kidSame t3.old (live2 _ (e1L hm)) (live3 _ hm);have m:=h.mapSame i4 old14 l (hk8.2 _ (g0Z hsj)) (l1K sup4 hk3) (b0Q (l+1) j).2;rw[m.1]
     conv=>rhs;unfold c0P
   ·obtain⟨e,s',h1,h2⟩:=hf;refine .inr ⟨e,s',by rw[eset,h1],h2.imp (fun⟨a,b⟩=>⟨a,?_⟩) id⟩;have:=t123.rel.room;have:=t123.keep;omega
  ·obtain⟨e,s',h1,h2⟩:=hf;have t12:=t1.trans t2;refine .inr ⟨e,s',?_,h2.imp (fun⟨a,b⟩=>⟨a,?_⟩) id⟩
   ·conv=>lhs;unfold Go.Sb.i0W
    rw[a0A e0];simp only;rw[a0A e1,a0A (show v0D root (l+1) s1=_ from e2),a0F h1]
   ·have:=t12.rel.room;have:=t12.keep;omega
end
end
end Go.Sb

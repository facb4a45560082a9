/- Part of the proof; no statement of its own. -/
import Derived.Test.YtpinhnikemamjaaGreatDoorN10
set_option linter.all false
set_option maxRecDepth 4000
set_option maxHeartbeats 4000000
namespace Go.Sb
section
structure d0F (c:Nat) (s:St):Prop where
 d:0<s.depth
 l:s.log.length+c+10<1000000000
 g:s.gone.length+c+10<1000000000
theorem Rel.len {c k:Nat} {s t:St} (h:Rel c k s t):t.log.length≤s.log.length+c:=by
 obtain⟨l,e,n,_⟩:=h.log;rw[e,List.length_append];omega
theorem d0F.go {c c' k:Nat} {s t:St} (h:d0F (c+c') s) (r:Rel c k s t):d0F c' t:=
 ⟨by rw[r.depth];exact h.d,by have:=r.len;have:=h.l;omega,by have:=r.gone;have:=h.g;omega⟩
theorem d0F.le {c c':Nat} {s:St} (h:d0F c s) (hc:c'≤c):d0F c' s:=⟨h.d,by have:=h.l;omega,by have:=h.g;omega⟩
structure Stp (c k:Nat) (s:St) (G:Gh) (s':St) (G':Gh):Prop where
 rel:Rel c k s s'
 idx:Idx s' G'
 old: ∀b o,a0E b G'=some o→a0E b G=some o∨j0V s b
 keep:s'.keep=s.keep
 vols:s'.vols=s.vols
 next:s'.next=s.next
theorem Stp.trans {c1 k1 c2 k2:Nat} {s t u:St} {G1 G2 G3:Gh} (h:Stp c1 k1 s G1 t G2) (j:Stp c2 k2 t G2 u G3):Stp (c1+c2) (k1+k2) s G1 u G3:=
 ⟨h.rel.trans j.rel,j.idx,fun b o hb=>by
  rcases j.old b o hb with h1|h1
  ·exact h.old b o h1
  ·exact .inr (h.rel.free b h1),j.keep.trans h.keep,j.vols.trans h.vols,j.next.trans h.next⟩
theorem Stp.mono {c k c' k':Nat} {s t:St} {G G':Gh} (h:Stp c k s G t G') (hc:c≤c') (hk:k≤k'):Stp c' k' s G t G':=⟨h.rel.mono hc hk,h.idx,h.old,h.keep,h.vols,h.next⟩
theorem Stp.refl {s:St} {G:Gh} {P:List Int} (h:Inv s G P) (hi:Idx s G):Stp 0 0 s G s G:=⟨Rel.refl h.u,hi,fun _ _ h=> .inl h,rfl,rfl,rfl⟩
section
variable {s:St} {G:Gh} {P:List Int}
theorem Inv.perm {Q:List Int} (h:Inv s G P) (hp: ∀x,x≠0→P.count x=Q.count x):Inv s G Q:=
 ⟨h.u,h.nod,h.lo,h.hi,fun a ha=>by have:=h.refs a ha;unfold f0X at this ⊢;rw[←hp a ha];exact this,fun a ha=>by have:=h.live a ha;unfold f0X at this ⊢;rw[←hp a ha];exact this,
  h.zero,h.held,h.disk,h.typ,h.cnt⟩
theorem Inv.drop0 (h:Inv s G (0::P)):Inv s G P:=h.perm fun x hx=>by rw[List.count_cons_of_ne (Ne.symm hx)]
theorem Inv.add0 (h:Inv s G P):Inv s G (0::P):=h.perm fun x hx=>by rw[List.count_cons_of_ne (Ne.symm hx)]
theorem Inv.pend (h:Inv s G P) {x:Int} (hx:x∈P) (h0:x≠0):(a0E x G).isSome=true:=(h.live x h0).1 (by have:=List.count_pos_iff.2 hx;unfold f0X;omega)
def Sub (G' G:Gh):Prop:= ∀b o,a0E b G'=some o→a0E b G=some o
theorem Sub.refl (G:Gh):Sub G G:=fun _ _ h=>h
theorem Sub.trans {A B C:Gh} (h:Sub A B) (j:Sub B C):Sub A C:=fun b o hb=>j b o (h b o hb)
theorem z0R {a:Int} (hG:mok G):Sub (b0C a G) G:=fun b o h=>by
 rw[c0M a b hG]at h;split at h
 ·cases h
 ·exact h
theorem w0J {G':Gh} (hs:Sub G' G) {l:Nat} {k:Int} (h:a0Y G l k) (hk:k=0∨(a0E k G').isSome=true):a0Y G' l k:=by
 rcases hk with rfl|hk
 ·cases l<;>exact .inl rfl
 ·obtain⟨o,ho⟩:=Option.isSome_iff_exists.1 hk;have h1:=hs k o ho;cases l with
  |zero=>
   rcases h with rfl| ⟨d,ats,e⟩
   ·exact .inl rfl
   ·rw[e]at h1;cases h1;exact .inr ⟨d,ats,ho⟩
  |succ l=>
   rcases h with rfl| ⟨d,ats,e⟩
   ·exact .inl rfl
   ·rw[e]at h1;cases h1;exact .inr ⟨d,ats,ho⟩
theorem Inv.lessParts: ∀(ats:List Int) {s:St} {G:Gh},Inv s G (ats++P)→(∀x∈ats,x=0∨ ∃b,a0E x G=some (.part b))→d0F (ats.length*4) s→P.length+ats.length<1000000→
 ∃s' G',i0D j0A ats s=(.ok (),s')∧Inv s' G' P∧Rel (ats.length*4) 0 s s'∧Sub G' G∧(∀b o,a0E b G=some o→(∃x,o= .part x)∨a0E b G'=some o)∧s'.index=s.index∧s'.keep=s.keep∧s'.vols=s.vols∧s'.next=s.next
 | [],s,G,h,_,_,_=>⟨s,G,rfl,h,(Rel.refl h.u).mono (by simp) (by omega),Sub.refl G,fun _ _ h=> .inr h,rfl,rfl,rfl,rfl⟩
 |x::ats,s,G,h,ht,hr,hP=>by
  have hr':d0F (4+ats.length*4) s:=hr.le (by simp;omega);simp only[List.length_cons]at hP;have one: ∃s1 G1,j0A x s=(.ok (),s1)∧Inv s1 G1 (ats++P)∧Rel 4 0 s s1∧Sub G1 G∧(∀b o,a0E b G=some o→(∃x,o= .part x)∨a0E b G1=some o)∧s1.index=s.index∧s1.keep=s.keep∧s1.vols=s.vols∧s1.next=s.next:=by
   rcases ht x (List.mem_cons_self ..)with rfl| ⟨b,hb⟩
   ·exact⟨s,G,by unfold j0A;rw[if_neg (by omega)];rfl,h.drop0,(Rel.refl h.u).mono (by omega) (by omega),Sub.refl G,fun _ _ h=> .inr h,rfl,rfl,rfl,rfl⟩
   ·have hx:=h.range hb;by_cases hn:f0X G (ats++P) x=0
    ·obtain⟨s1,e1,i1,r1,q1,q2,q3,q4⟩:=h.less1 hb hr.d (by have:=hr'.l;omega) (by have:=hr'.g;omega) hn;refine⟨s1,b0C x G,by unfold j0A;rw[if_pos (by omega),a0A e1];rfl,i1,r1,z0R h.nod,fun c o hc=> ?_,q1,q2,q3,q4⟩;by_cases e:x=c
     ·subst e;rw[hb]at hc;cases hc;exact .inl ⟨b,rfl⟩
     ·rw[c0M x c h.nod,if_neg e];exact .inr hc
    ·obtain⟨s1,e1,i1,r1,q1,q2,q3,q4⟩:=h.less2 hb hr.d (by have:=hr'.l;omega) (by simp;omega) hn;exact⟨s1,G,by unfold j0A;rw[if_pos (by omega),a0A e1];rfl,i1,r1,Sub.refl G,fun _ _ h=> .inr h,q1,q2,q3,q4⟩
  obtain⟨s1,G1,e1,i1,r1,sb1,k1,q1,q2,q3,q4⟩:=one;obtain⟨s2,G2,e2,i2,r2,sb2,k2,p1,p2,p3,p4⟩:=Inv.lessParts ats i1 (fun y hy=>by
   rcases ht y (List.mem_cons_of_mem _ hy)with h0| ⟨b,hb⟩
   ·exact .inl h0
   ·have hy0:=h.ne0 hb;obtain⟨o,ho⟩:=Option.isSome_iff_exists.1 (i1.pend (List.mem_append_left _ hy) hy0);have:=sb1 y o ho;rw[hb]at this;cases this;exact .inr ⟨b,ho⟩) (hr'.go r1) (by omega)
  refine⟨s2,G2,by unfold i0D;rw[a0A e1,e2],i2,(r1.trans r2).mono (by simp;omega) (by omega),sb2.trans sb1,fun b o hb=> ?_,p1.trans q1,p2.trans q2,p3.trans q3,p4.trans q4⟩;rcases k1 b o hb with h1|h1
  ·exact .inl h1
  ·exact k2 b o h1
theorem d1I {d:B} {ats:List Int} (h:x0C G (.ext d ats)): ∀x∈ats,x=0∨ ∃b,a0E x G=some (.part b):=by
 obtain⟨t1,t2,t3,t4⟩:=h;intro x hx;obtain⟨k,hk,rfl⟩:=List.getElem_of_mem hx;have e:ats.getD k 0=ats[k]:=by rw[List.getD_eq_getElem?_getD,List.getElem?_eq_getElem hk];rfl
 have:=t4 k (by omega);unfold u0S at this;rw[e]at this;split at this
 ·exact .inl this
 ·exact .inr ⟨_,this.2⟩
theorem Inv.xless {a:Int} (h:Inv s G (a::P)) (hi:Idx s G) (ha:a0Y G 0 a) (hr:d0F 21 s) (hP:P.length+8<1000000):
 ∃s' G',g0D a s=(.ok (),s')∧Inv s' G' P∧Stp 21 0 s G s' G'∧Sub G' G:=by
 unfold Go.Sb.g0D;rcases ha with rfl| ⟨d,ats,ho⟩
 ·exact⟨s,G,by rw[if_pos rfl];rfl,h.drop0,(Stp.refl h hi).mono (by omega) (by omega),Sub.refl G⟩
 rw[if_neg (h.ne0 ho),a0A (h.xhead ho)];by_cases hn:f0X G P a=0
 ·obtain⟨s1,e1,i1,r1,q1,q2,q3,q4⟩:=h.less1 ho hr.d (by have:=hr.l;omega) (by have:=hr.g;omega) hn;rw[a0A e1];have hok:=h.typ a _ ho;have hnk:a ∉ ats:=fun hm=>v0N ho hm (by unfold f0X at hn;omega);obtain⟨s2,G2,e2,i2,r2,sb2,k2,p1,p2,p3,p4⟩:=Inv.lessParts ats (s:=s1) (G:=b0C a G) (P:=P) i1 (fun x hx=>by
   rcases d1I hok x hx with h0| ⟨b,hb⟩
   ·exact .inl h0
   ·exact .inr ⟨b,by rw[c0M a x h.nod,if_neg (fun(e:a=x)=>hnk (by subst e;exact hx))];exact hb⟩) ((hr.le (c':=4+ats.length*4) (by have:ats.length=4:=hok.2.2.1;omega)).go r1) (by have:ats.length=4:=hok.2.2.1;omega)
  have r12:Rel 20 0 s s2:=(r1.trans r2).mono (by have:ats.length=4:=hok.2.2.1;omega) (by omega);have hr2:d0F 1 s2:=(hr.le (by omega):d0F (20+1) s).go r12;have e3:g0Z (key s2.bits (Sha.sum d)) s2=(.ok (),{s2 with log:=bk s2.depth s2.log (.index (key s2.bits (Sha.sum d)) (a0E (key s2.bits (Sha.sum d)) s2.index)),index:=b0C (key s2.bits (Sha.sum d)) s2.index}):=by
   have:=hr2.l;simp[g0Z,a0B,back,show ¬1000000000≤s2.log.length by omega]
  have r3:=d1G (key s2.bits (Sha.sum d)) s2 hr2.d i2.u (by rw[e3];simp);rw[e3]at r3;have hsub:Sub G2 G:=sb2.trans (z0R h.nod);refine⟨_,G2,?_,⟨r3.ok,i2.nod,i2.lo,i2.hi,i2.refs,i2.live,i2.zero,i2.held,i2.disk,i2.typ,i2.cnt⟩,⟨(r12.trans r3).mono (by omega) (by omega),fun k b=> ?_,fun b o hb=> .inl (hsub b o hb),p2.trans q2,p3.trans q3,p4.trans q4⟩,hsub⟩
  ·simp only[if_true];show a0B (i0D j0A ats) _ s1=_;rw[a0A e2];exact e3
  ·show a0E k (b0C (key s2.bits (Sha.sum d)) s2.index)=some b↔ ∃d' ats',a0E b G2=some (.ext d' ats')∧k=key s2.bits (Sha.sum d');rw[c0M _ k i2.u.m.index,show s2.bits=s.bits from r12.bits,p1,q1];constructor
   ·intro hk;split at hk
    ·cases hk
    ·rename_i hne;obtain⟨d',ats',hb,e⟩:=(hi k b).1 hk;refine⟨d',ats',?_,e⟩;have hba:a≠b:=fun e2=>by subst e2;rw[ho]at hb;cases hb;exact hne e.symm
     rcases k2 b (.ext d' ats') (by rw[c0M a b h.nod,if_neg hba];exact hb)with ⟨x,hx⟩|hx
     ·cases hx
     ·exact hx
   ·rintro⟨d',ats',hb,e⟩;have hb':=hsub b _ hb;have hk:=(hi k b).2 ⟨d',ats',hb',e⟩;rw[if_neg]
    ·exact hk
    ·intro e2;have:=(hi (key s.bits (Sha.sum d)) a).2 ⟨d,ats,ho,rfl⟩;rw[e2,hk]at this;cases this
     have:=sb2 a _ hb;rw[c0M a a h.nod,if_pos rfl]at this;cases this
 ·obtain⟨s1,e1,i1,r1,q1,q2,q3,q4⟩:=h.less2 ho hr.d (by have:=hr.l;omega) (by omega) hn;rw[a0A e1];exact⟨s1,G,rfl,i1,⟨r1.mono (by omega) (by omega),fun k b=>by rw[q1,r1.bits];exact hi k b,fun _ _ h=> .inl h,q2,q3,q4⟩,Sub.refl G⟩
theorem Inv.rlessL {l:Nat} (hone: ∀ {s:St} {G:Gh} {P:List Int} {a:Int},Inv s G (a::P)→Idx s G→a0Y G l a→d0F (j0M l) s→P.length+8*(l+1)<1000000→ ∃s' G',g0E l a s=(.ok (),s')∧Inv s' G' P∧Stp (j0M l) 0 s G s' G'∧Sub G' G):
 ∀(ks:List Int) {s:St} {G:Gh},Inv s G (ks++P)→Idx s G→(∀k∈ks,a0Y G l k)→d0F (ks.length*j0M l) s→P.length+ks.length+8*(l+1)<1000000→
 ∃s' G',i0D (g0E l) ks s=(.ok (),s')∧Inv s' G' P∧Stp (ks.length*j0M l) 0 s G s' G'∧Sub G' G
 | [],s,G,h,hi,_,_,_=>⟨s,G,rfl,h,(Stp.refl h hi).mono (by simp) (by omega),Sub.refl G⟩
 |x::ks,s,G,h,hi,hk,hr,hP=>by
  have hr':d0F (j0M l+ks.length*j0M l) s:=hr.le (by simp[Nat.succ_mul,Nat.add_comm]);simp only[List.length_cons]at hP;obtain⟨s1,G1,e1,i1,t1,b1⟩:=hone (P:=ks++P) h hi (hk x (List.mem_cons_self ..)) (hr'.le (by omega)) (by simp;omega);obtain⟨s2,G2,e2,i2,t2,b2⟩:=Inv.rlessL hone ks i1 t1.idx (fun y hy=>w0J b1 (hk y (List.mem_cons_of_mem _ hy)) (by
   by_cases h0:y=0
   ·exact .inl h0
   ·exact .inr (i1.pend (List.mem_append_left _ hy) h0))) (hr'.go t1.rel) (by omega)
  exact⟨s2,G2,by unfold i0D;rw[a0A e1,e2],i2,(t1.trans t2).mono (by simp[Nat.succ_mul,Nat.add_comm]) (by omega),b2.trans b1⟩
theorem Inv.rless: ∀(l:Nat) {s:St} {G:Gh} {P:List Int} {a:Int},Inv s G (a::P)→Idx s G→a0Y G l a→d0F (j0M l) s→P.length+8*(l+1)<1000000→
 ∃s' G',g0E l a s=(.ok (),s')∧Inv s' G' P∧Stp (j0M l) 0 s G s' G'∧Sub G' G
 |0,s,G,P,a,h,hi,ha,hr,hP=>h.xless hi ha hr (by omega)
 |l+1,s,G,P,a,h,hi,ha,hr,hP=>by
  unfold Go.Sb.g0E;rcases ha with rfl| ⟨ks,sm,ho⟩
  ·exact⟨s,G,by rw[if_pos rfl];rfl,h.drop0,(Stp.refl h hi).mono (by omega) (by omega),Sub.refl G⟩
  rw[if_neg (h.ne0 ho),a0A (h.load ho)];obtain⟨_,t2,_,t4,_⟩:=h.typ a _ ho;have hr':d0F (4+8*j0M l) s:=hr;by_cases hn:f0X G P a=0
  ·obtain⟨s1,e1,i1,r1,q1,q2,q3,q4⟩:=h.less1 ho hr.d (by have:=hr'.l;omega) (by have:=hr'.g;omega) hn;rw[a0A e1];have hnk:a ∉ ks:=fun hm=>v0N ho hm (by unfold f0X at hn;omega);have hi1:Idx s1 (b0C a G):=fun k b=>by
    rw[q1,r1.bits,hi k b];constructor
    ·rintro⟨d,ats,hb,e⟩;refine⟨d,ats,?_,e⟩;rw[c0M a b h.nod,if_neg (fun e2=>by rw[←e2,ho]at hb;cases hb)];exact hb
    ·rintro⟨d,ats,hb,e⟩;exact⟨d,ats,z0R h.nod b _ hb,e⟩
   obtain⟨s2,G2,e2,i2,u2,b2⟩:=Inv.rlessL (l:=l) (fun h hi ha hr hP=>Inv.rless l h hi ha hr hP) ks (s:=s1) (G:=b0C a G) (P:=P) i1 hi1 (fun k hm=>z1M h.nod (fun(e:k=a)=>hnk (by subst e;exact hm)) (t4 k hm)) (by rw[t2];exact hr'.go r1) (by omega);rw[t2]at u2;have hs1:Stp 4 0 s G s1 (b0C a G):=⟨r1,hi1,fun b o hb=> .inl (z0R h.nod b o hb),q2,q3,q4⟩;exact⟨s2,G2,by simp only[if_true];exact e2,i2,(hs1.trans u2).mono (by simp only[j0M];omega) (by omega),b2.trans (z0R h.nod)⟩
  ·obtain⟨s1,e1,i1,r1,q1,q2,q3,q4⟩:=h.less2 ho hr.d (by have:=hr'.l;omega) (by omega) hn;rw[a0A e1];exact⟨s1,G,rfl,i1,⟨r1.mono (by simp only[j0M];omega) (by omega),fun k b=>by rw[q1,r1.bits];exact hi k b,fun _ _ h=> .inl h,q2,q3,q4⟩,Sub.refl G⟩
end
end
section
def Fl {α:Type} (k:Nat) (C:Prop) (m:M α) (s:St):Prop:= ∃e s',m s=(.err e,s')∧(e=8∧(b0K s:Int)<s.keep+k∨e=9∧C)
theorem Fl.here {α β:Type} {k k':Nat} {C C':Prop} {m:M α} {f:α→M β} {s:St} (h:Fl k C m s) (hk:k≤k') (hC:C→C'):Fl k' C' (a0B m f) s:=by
 obtain⟨e,s',h1,h2⟩:=h;exact⟨e,s',a0I h1,h2.imp (fun⟨a,b⟩=>⟨a,by omega⟩) (fun⟨a,b⟩=>⟨a,hC b⟩)⟩
theorem Fl.there {α β:Type} {c k1 k2 k':Nat} {C C':Prop} {m:M α} {f:α→M β} {s t:St} {a:α} (h:m s=(.ok a,t)) (r:Rel c k1 s t) (hkp:t.keep=s.keep) (j:Fl k2 C (f a) t) (hk:k1+k2≤k') (hC:C→C'):Fl k' C' (a0B m f) s:=by
 obtain⟨e,s',h1,h2⟩:=j;refine⟨e,s',by rw[a0A h];exact h1,h2.imp (fun⟨a,b⟩=>⟨a,?_⟩) (fun⟨a,b⟩=>⟨a,hC b⟩)⟩;have:=r.room;omega
theorem Fl.mono {α:Type} {k k':Nat} {C C':Prop} {m:M α} {s:St} (h:Fl k C m s) (hk:k≤k') (hC:C→C'):Fl k' C' m s:=by
 obtain⟨e,s',h1,h2⟩:=h;exact⟨e,s',h1,h2.imp (fun⟨a,b⟩=>⟨a,by omega⟩) (fun⟨a,b⟩=>⟨a,hC b⟩)⟩
section
variable {s:St} {G:Gh} {P:List Int}
theorem Inv.free_none (h:Inv s G P) {a:Int} (ha:j0V s a):a0E a G=none:=by
 cases hm:a0E a G with
 |none=>rfl
 |some u=>exact absurd (z0O ((h.held _).2 (by rw[hm];rfl)) ha) (by decide)
theorem Inv.same (h:Inv s G P) {G':Gh} (old: ∀b o,a0E b G'=some o→a0E b G=some o∨j0V s b) {b:Int} {o:Ob} (hl:(a0E b G).isSome=true) (hb:a0E b G'=some o):a0E b G=some o:=by
 rcases old b o hb with h1|h1
 ·exact h1
 ·rw[h.free_none h1]at hl;cases hl
theorem Inv.kidSame (h:Inv s G P) {G':Gh} (old: ∀b o,a0E b G'=some o→a0E b G=some o∨j0V s b) {l:Nat} {k:Int} (hk:a0Y G l k) (hl:k=0∨(a0E k G').isSome=true):a0Y G' l k:=by
 rcases hl with rfl|hl
 ·cases l<;>exact .inl rfl
 ·obtain⟨o,ho⟩:=Option.isSome_iff_exists.1 hl;rcases j0Y hk with rfl|hg
  ·cases l<;>exact .inl rfl
  ·have h1:=h.same old hg ho;cases l with
   |zero=>
    rcases hk with rfl| ⟨d,ats,e⟩
    ·exact .inl rfl
    ·rw[e]at h1;cases h1;exact .inr ⟨d,ats,ho⟩
   |succ l=>
    rcases hk with rfl| ⟨d,ats,e⟩
    ·exact .inl rfl
    ·rw[e]at h1;cases h1;exact .inr ⟨d,ats,ho⟩
theorem Inv.leafSame (h:Inv s G P) {G':Gh} (old: ∀b o,a0E b G'=some o→a0E b G=some o∨j0V s b) (z':a0E 0 G'=none) {k:Int} (hk:a0Y G 0 k) (hl:k=0∨(a0E k G').isSome=true):d0B G' k=d0B G k:=by
 rcases hl with rfl|hl
 ·unfold d0B;rw[z',h.zero]
 ·obtain⟨o,ho⟩:=Option.isSome_iff_exists.1 hl;rcases j0Y hk with rfl|hg
  ·rw[z']at ho;cases ho
  ·unfold d0B;rw[ho,h.same old hg ho]
theorem t0R (hz:a0E 0 G=none): ∀(l j:Nat),c0K G l 0 j=0
 |0,j=>by
  unfold c0K b0E;rw[hz];have: ∀k,e0F.getD k 0=0:=fun k=>by
   rcases Nat.lt_or_ge k 8 with h|h
   ·have:=g0J (l:=e0F) (i:=k) h;simpa [e0F] using this
   ·rw[List.getD_eq_getElem?_getD,List.getElem?_eq_none (by simpa [e0F] using h)];rfl
  exact this _
 |l+1,j=>by
  unfold c0K b0E;rw[hz];have: ∀k,e0F.getD k 0=0:=fun k=>by
   rcases Nat.lt_or_ge k 8 with h|h
   ·have:=g0J (l:=e0F) (i:=k) h;simpa [e0F] using this
   ·rw[List.getD_eq_getElem?_getD,List.getElem?_eq_none (by simpa [e0F] using h)];rfl
  simp only[this];exact t0R hz l _
theorem Inv.mapSame (h:Inv s G P) {s':St} {G':Gh} {P':List Int} (h':Inv s' G' P') (old: ∀b o,a0E b G'=some o→a0E b G=some o∨j0V s b): ∀(l:Nat) {root:Int},a0Y G (l+1) root→(root=0∨(a0E root G').isSome=true)→
 ∀j,c0K G' l root j=c0K G l root j∧a0Y G 0 (c0K G l root j)∧(c0K G l root j=0∨(a0E (c0K G l root j) G').isSome=true)
 |l,root,hk,.inl e,j=>by
  subst e;rw[t0R h'.zero,t0R h.zero];exact⟨rfl,.inl rfl,.inl rfl⟩
 |0,root,hk,.inr hl,j=>by
  have hk':=h.kidSame old hk (.inr hl);have e:b0E G' root=b0E G root:=by
   rcases hk' with rfl| ⟨ks,sm,ho⟩
   ·unfold b0E;rw[h'.zero,h.zero]
   ·unfold b0E;rcases j0Y hk with rfl|hg
    ·rw[h'.zero]at ho;cases ho
    ·rw[ho,h.same old hg ho]
  have hm:=(h'.kids hk').2 ((b0E G root).getD (b0O 0 j).1 0) (by rw[e];exact g0J (by rw[(h.kids hk).1];exact p0M 0 j));refine⟨by unfold c0K;rw[e],h.leafKid 0 hk j,?_⟩;exact j0Y hm
 |l+1,root,hk,.inr hl,j=>by
  have hk':=h.kidSame old hk (.inr hl);have e:b0E G' root=b0E G root:=by
   rcases hk' with rfl| ⟨ks,sm,ho⟩
   ·unfold b0E;rw[h'.zero,h.zero]
   ·unfold b0E;rcases j0Y hk with rfl|hg
    ·rw[h'.zero]at ho;cases ho
    ·rw[ho,h.same old hg ho]
  have hm:=(h'.kids hk').2 ((b0E G root).getD (b0O (l+1) j).1 0) (by rw[e];exact g0J (by rw[(h.kids hk).1];exact p0M (l+1) j));have hm0:=(h.kids hk).2 ((b0E G root).getD (b0O (l+1) j).1 0) (g0J (by rw[(h.kids hk).1];exact p0M (l+1) j));have ih:=h.mapSame h' old l hm0 (j0Y hm) (b0O (l+1) j).2;unfold c0K;rw[e];exact ih
theorem Inv.putN {o:Ob} (h:Inv s G (f0I o++P)) (hi:Idx s G) (hok:x0C G o) (hne: ∀d ats,o≠ .ext d ats) (hr:d0F 3 s):
 (∃a s',e0M (l0I o) s=(.ok a,s')∧Inv s' ((a,o)::G) (a::P)∧Stp 3 1 s G s' ((a,o)::G)∧a0E a G=none∧a≠0∧s'.index=s.index)∨Fl 1 False (e0M (l0I o)) s:=by
 by_cases hf:s.keep<(b0K s:Int)
 ·have hl:(l0I o).length=64:=by
   cases o with
   |part b=>exact hok
   |ext d ats=>exact(hne d ats rfl).elim
   |node l ks sm=>
    obtain⟨t1,t2,t3,t4,t5⟩:=hok;exact(z1G (x:= {kids:=ks,sum:=sm}) (l:=l) (by omega) ⟨t2,fun x hx=>h.kid_range (t4 x hx),by rw[t5];exact s0W _ _⟩).2
  obtain⟨a,s',e,i,r,hfr,q1,q2,q3,q4⟩:=h.put hok hl hr.d (by have:=hr.l;omega) hf;have hn:=h.free_none hfr;have hi':Idx s' ((a,o)::G):=fun k b=>by
   rw[q1,r.bits,hi k b];constructor
   ·rintro⟨d,ats,hb,e⟩;exact⟨d,ats,by rw[d0H,if_neg (fun e2=>by rw[←e2,hn]at hb;cases hb)];exact hb,e⟩
   ·rintro⟨d,ats,hb,e⟩;rw[d0H]at hb;split at hb
    ·cases hb;exact(hne d ats rfl).elim
    ·exact⟨d,ats,hb,e⟩
  refine .inl ⟨a,s',e,i,⟨r,hi',fun b u hb=> ?_,q2,q3,q4⟩,hn,i.ne0 (o:=o) (by rw[d0H,if_pos rfl]),q1⟩;rw[d0H]at hb;split at hb
  ·rename_i e2;exact .inr (e2▸hfr)
  ·exact .inl hb
 ·exact .inr ⟨8,s,by unfold e0M;rw[if_pos (by omega)],.inl ⟨rfl,by omega⟩⟩
theorem Inv.xputs {d:B} (hd:d.length=256): ∀(n:Nat),n≤4→ ∀ {s:St} {G:Gh} {P:List Int},Inv s G P→Idx s G→d0F (n*3) s→
 (∃ps s' G',m0X d n s=(.ok ps,s')∧Inv s' G' (ps.map (·.1)++P)∧Stp (n*3) n s G s' G'∧ps.length=n∧s'.index=s.index∧
  (∀b o,a0E b G=some o→a0E b G'=some o)∧
  ∀i,i<n→if a0R (part d (4-n+i))=true then ps.getD i (0,0)=(0,0)else(ps.getD i (0,0)).1≠0∧a0E (ps.getD i (0,0)).1 G'=some (.part (part d (4-n+i)))∧(ps.getD i (0,0)).2=f0V (part d (4-n+i)))∨
 Fl n False (m0X d n) s
 |0,_,s,G,P,h,hi,_=> .inl ⟨[],s,G,rfl,h,(Stp.refl h hi).mono (by omega) (by omega),rfl,rfl,fun _ _ h=>h,fun i hi=>by omega⟩
 |n+1,hn,s,G,P,h,hi,hr=>by
  have hr':d0F (3+n*3) s:=hr.le (by omega);unfold Go.Sb.m0X;simp only;have hone:(∃p s1 G1,(if a0R (part d (4- (n+1)))=true then ret (0,0)else a0B (e0M (part d (4- (n+1)))) fun a=>ret (a,f0V (part d (4- (n+1)))):M (Int×Nat)) s=(.ok p,s1)∧Inv s1 G1 (p.1::P)∧Stp 3 1 s G s1 G1∧s1.index=s.index∧
   (∀b o,a0E b G=some o→a0E b G1=some o)∧
   if a0R (part d (4- (n+1)))=true then p=(0,0)else p.1≠0∧a0E p.1 G1=some (.part (part d (4- (n+1))))∧p.2=f0V (part d (4- (n+1))))∨
   Fl 1 False (if a0R (part d (4- (n+1)))=true then ret (0,0)else a0B (e0M (part d (4- (n+1)))) fun a=>ret (a,f0V (part d (4- (n+1)))):M (Int×Nat)) s:=by
   by_cases hz:a0R (part d (4- (n+1)))=true
   ·simp only[if_pos hz];exact .inl ⟨(0,0),s,G,rfl,h.add0,(Stp.refl h hi).mono (by omega) (by omega),rfl,fun _ _ h=>h,rfl⟩
   ·simp only[if_neg hz];rcases Inv.putN (o:= .part (part d (4- (n+1)))) (P:=P) h hi (h1W hd (by omega)) (fun _ _ e=>by cases e) (hr'.le (by omega))with ⟨a,s1,e1,i1,t1,hn1,ha0,x1⟩|hf
    ·refine .inl ⟨(a,f0V (part d (4- (n+1)))),s1,_,?_,i1,t1,x1,fun b o hb=> ?_,ha0,by rw[d0H,if_pos rfl],rfl⟩
     ·have e1':e0M (part d (4- (n+1))) s=(.ok a,s1):=e1;rw[a0A e1'];rfl
     ·rw[d0H,if_neg (fun e=>by rw[←e,hn1]at hb;cases hb)];exact hb
    ·exact .inr (Fl.here (m:=e0M (part d (4- (n+1)))) hf (Nat.le_refl _) id)
  rcases hone with ⟨p,s1,G1,e1,i1,t1,x1,k1,c1⟩|hf
  ·rcases Inv.xputs hd n (by omega) i1 t1.idx (hr'.go t1.rel)with ⟨ps,s2,G2,e2,i2,t2,l2,x2,k2,c2⟩|hf
   ·refine .inl ⟨p::ps,s2,G2,by rw[a0A e1,a0A e2];rfl,i2.perm fun x hx=> ?_,(t1.trans t2).mono (by omega) (by omega),by simp[l2],x2.trans x1,fun b o hb=>k2 b o (k1 b o hb),fun i hi=> ?_⟩
    ·simp only[List.map_cons,List.cons_append,List.count_append,List.count_cons];omega
    ·cases i with
     |zero=>
      simp only[Nat.add_zero,List.getD_cons_zero];split at c1
      ·rename_i hz;rw[if_pos hz];exact c1
      ·rename_i hz;rw[if_neg hz];exact⟨c1.1,k2 _ _ c1.2.1,c1.2.2⟩
     |succ i=>
      have:=c2 i (by omega);rw[show 4- (n+1)+(i+1)=4-n+i by omega];simpa only[List.getD_cons_succ] using this
   ·exact .inr (Fl.there e1 t1.rel t1.keep (hf.here (Nat.le_refl _) id) (by omega) id)
  ·exact .inr (hf.here (by omega) id)
def f1K (G:Gh) (bits:Nat) (data:B):Prop:= ∃a d ats,a0E a G=some (.ext d ats)∧d≠data∧key bits (Sha.sum d)=key bits (Sha.sum data)
theorem Inv.xput (h:Inv s G P) (hi:Idx s G) {data:B} (hd:data.length=256) (hr:d0F 16 s) (hP:P.length≤1000000):
 (∃a s' G',i0Q data s=(.ok a,s')∧Inv s' G' (a::P)∧Stp 16 5 s G s' G'∧a0Y G' 0 a∧d0B G' a=data∧(a0R data=false→ ¬f1K G s.bits data))∨Fl 5 (a0R data=false∧f1K G s.bits data) (i0Q data) s:=by
 unfold Go.Sb.i0Q;rw[if_neg (by omega)];by_cases hz:a0R data=true
 ·rw[if_pos hz];refine .inl ⟨0,s,G,rfl,h.add0,(Stp.refl h hi).mono (by omega) (by omega),.inl rfl,?_,fun e=>by rw[hz]at e;cases e⟩;unfold d0B;rw[h.zero,a1Y hz hd]
 ·rw[if_neg hz];have hz':a0R data=false:=by simpa using hz
  cases hm:a0E (key s.bits (Sha.sum data)) s.index with
  |some a=>
   obtain⟨d,ats,ho,hk⟩:=(hi _ _).1 hm;have hone: ∀b d' ats',a0E b G=some (.ext d' ats')→key s.bits (Sha.sum d')=key s.bits (Sha.sum data)→b=a:=fun b d' ats' hb e=>by
    have:=(hi (key s.bits (Sha.sum data)) b).2 ⟨d',ats',hb,e.symm⟩;rw[hm]at this;cases this;rfl
   by_cases hdd:d=data
   ·subst hdd;obtain⟨s1,e1,i1,r1,q1,q2,q3,q4⟩:=h.more ho hr.d (by have:=hr.l;omega) hP;refine .inl ⟨a,s1,G,?_,i1,⟨r1.mono (by omega) (by omega),fun k b=>by rw[q1,r1.bits];exact hi k b,fun _ _ h=> .inl h,q2,q3,q4⟩,.inr ⟨d,ats,ho⟩,by unfold d0B;rw[ho],?_⟩
    ·simp only[hm];rw[a0A (h.xget ho)];show(if d≠d then n0Q 9 else a0B (k0E a) fun _=>ret a:M Int) s=_;rw[if_neg (by simp),a0A e1];rfl
    ·rintro _ ⟨b,d',ats',hb,hne,e⟩;have:=hone b d' ats' hb e;subst this;rw[ho]at hb;cases hb;exact hne rfl
   ·refine .inr ⟨9,s,?_,.inr ⟨rfl,hz',a,d,ats,ho,hdd,hk.symm⟩⟩;simp only[hm];rw[a0A (h.xget ho)];show(if d≠data then n0Q 9 else a0B (k0E a) fun _=>ret a:M Int) s=_;rw[if_pos hdd];rfl
  |none=>
   have hnc: ¬f1K G s.bits data:=by
    rintro⟨b,d',ats',hb,_,e⟩;have:=(hi (key s.bits (Sha.sum data)) b).2 ⟨d',ats',hb,e.symm⟩;rw[hm]at this;cases this
   rcases h.xputs hd 4 (Nat.le_refl _) hi (hr.le (by omega))with ⟨ps,s1,G1,e1,i1,t1,l1,x1,k1,c1⟩|hf
   ·have hmap: ∀i,(ps.map (·.1)).getD i 0=(ps.getD i (0,0)).1:=fun i=>by
     rw[List.getD_eq_getElem?_getD,List.getD_eq_getElem?_getD,List.getElem?_map];cases ps[i]? <;>rfl
    have hok:x0C G1 (.ext data (ps.map (·.1))):=by
     refine⟨hd,hz',by simp[l1],fun k hk=> ?_⟩;have:=c1 k hk;rw[show 4-4+k=k by omega]at this;unfold u0S;split at this
     ·rename_i hz;rw[if_pos hz,hmap,this]
     ·rename_i hz;rw[if_neg hz,hmap];exact⟨this.1,this.2.1⟩
    have hsums:ps.map (·.2)=(List.range 4).map fun k=>if a0R (part data k)then 0 else f0V (part data k):=by
     apply List.ext_getElem?;intro i;by_cases hi4:i<4
     ·have:=c1 i hi4;rw[show 4-4+i=i by omega]at this;have hg:ps[i]? =some (ps.getD i (0,0)):=by rw[List.getD_eq_getElem?_getD,List.getElem?_eq_getElem (by omega)];rfl
      rw[List.getElem?_map,hg,List.getElem?_map,List.getElem?_range hi4];split at this
      ·rename_i hz;rw[this];simp[hz]
      ·rename_i hz;simp only[Option.map_some,this.2.2,hz];rfl
     ·rw[List.getElem?_eq_none (by simp;omega),List.getElem?_eq_none (by simp;omega)]
    have hbytes:h0F {at_:=ps.map (·.1),sums:=ps.map (·.2),sum:=Sha.sum data} =l0I (.ext data (ps.map (·.1))):=by
     show _=h0F (m0R _ _);unfold m0R;rw[hsums]
    have hr1:d0F 4 s1:=(hr.le (by omega):d0F (4*3+4) s).go t1.rel;by_cases hf:s1.keep<(b0K s1:Int)
    ·have hl64:(l0I (.ext data (ps.map (·.1)))).length=64:=by
      refine(z1F ⟨by simp[m0R,l1],fun x hx=> ?_,by simp[m0R],fun c hc=> ?_,p0L _⟩).2
      ·rcases d1I hok x hx with rfl| ⟨b,hb⟩
       ·omega
       ·have:=i1.range hb;omega
      ·obtain⟨k,_,rfl⟩:=List.mem_map.1 hc;split
       ·decide
       ·exact Nat.lt_of_lt_of_eq (f1I _) (by decide)
     obtain⟨a,s2,e2,i2,r2,hfr,q1,q2,q3,q4⟩:=Inv.put (o:= .ext data (ps.map (·.1))) (P:=P) i1 hok hl64 hr1.d (by have:=hr1.l;omega) hf;have hr2:d0F 1 s2:=(hr1.le (by omega):d0F (3+1) s1).go r2;have e3:e0X (key s2.bits (Sha.sum data)) a s2=(.ok (),{s2 with log:=bk s2.depth s2.log (.index (key s2.bits (Sha.sum data)) (a0E (key s2.bits (Sha.sum data)) s2.index)),index:=b0T (key s2.bits (Sha.sum data)) a s2.index}):=by
      have:=hr2.l;simp[e0X,a0B,back,show ¬1000000000≤s2.log.length by omega]
     have r3:=g1G (key s2.bits (Sha.sum data)) a s2 hr2.d i2.u (by rw[e3];simp);rw[e3]at r3;have hn:=i1.free_none hfr;have hb2:s2.bits=s.bits:=r2.bits.trans t1.rel.bits;have hidx: ∀k b,a0E k s1.index=some b↔ ∃d ats,a0E b G1=some (.ext d ats)∧k=key s.bits (Sha.sum d):=fun k b=>by
      have:=t1.idx k b;rw[t1.rel.bits]at this;exact this
     refine .inl ⟨a,_,(a,.ext data (ps.map (·.1)))::G1,?_,⟨r3.ok,i2.nod,i2.lo,i2.hi,i2.refs,i2.live,i2.zero,i2.held,i2.disk,i2.typ,i2.cnt⟩,⟨((t1.rel.trans r2).trans r3).mono (by omega) (by omega),fun k b=> ?_,fun b o hb=> ?_,q2.trans t1.keep,q3.trans t1.vols,q4.trans t1.next⟩,.inr ⟨data,_,by rw[d0H,if_pos rfl]⟩,by unfold d0B;rw[d0H,if_pos rfl],fun _=>hnc⟩
     ·simp only[hm];rw[a0A e1];simp only[hbytes];rw[a0A e2];show a0B (fun s=>e0X (key s.bits (Sha.sum data)) a s) _ s2=_;rw[a0A (m:=fun s=>e0X (key s.bits (Sha.sum data)) a s) e3];rfl
     ·show a0E k (b0T (key s2.bits (Sha.sum data)) a s2.index)=some b↔ ∃d' ats',a0E b ((a,Ob.ext data (ps.map (·.1)))::G1)=some (Ob.ext d' ats')∧k=key s2.bits (Sha.sum d');rw[j0C,hb2,q1];constructor
      ·intro hk;split at hk
       ·rename_i e;cases hk;exact⟨data,_,by rw[d0H,if_pos rfl],e.symm⟩
       ·obtain⟨d',ats',hb,e⟩:=(hidx k b).1 hk;exact⟨d',ats',by rw[d0H,if_neg (fun e2=>by rw[←e2,hn]at hb;cases hb)];exact hb,e⟩
      ·rintro⟨d',ats',hb,e⟩;rw[d0H]at hb;split at hb
       ·rename_i e2;cases hb;subst e2;rw[if_pos e.symm]
       ·have hk:=(hidx k b).2 ⟨d',ats',hb,e⟩;rw[if_neg]
        ·exact hk
        ·intro e2;rw[x1,←e2,hm]at hk;cases hk
     ·rw[d0H]at hb;split at hb
      ·rename_i e;subst e;exact .inr (t1.rel.free _ hfr)
      ·exact t1.old b o hb
    ·refine .inr ⟨8,s1,?_,.inl ⟨rfl,?_⟩⟩
     ·simp only[hm];rw[a0A e1];refine a0I ?_;unfold e0M;rw[if_pos (by omega)]
     ·have:=t1.rel.room;have:=t1.keep;omega
   ·refine .inr ?_;obtain⟨e,s',h1,h2⟩:=hf;refine⟨e,s',by simp only[hm];exact a0I h1,h2.imp (fun⟨a,b⟩=>⟨a,by omega⟩) (fun⟨_,b⟩=>b.elim)⟩
end
end
section
theorem z0S: ∀ {l:List Int} {k:Nat} (_:k<l.length) (r x:Int),(l.set k r).count x=(if r=x then 1 else 0)+(l.eraseIdx k).count x
 | [],k,h,_,_=>by simp at h
 |y::l,0,_,r,x=>by simp only[List.set_cons_zero,List.eraseIdx_cons_zero,List.count_cons,beq_iff_eq];omega
 |y::l,k+1,h,r,x=>by
  have:=z0S (l:=l) (k:=k) (by simpa using h) r x;simp only[List.set_cons_succ,List.eraseIdx_cons_succ,List.count_cons];omega
theorem z1N {l:List Int} {k:Nat} (h:k<l.length) (x:Int):l.count x=(if l.getD k 0=x then 1 else 0)+(l.eraseIdx k).count x:=by
 have h1:=z0S h (l.getD k 0) x;have e:l.set k (l.getD k 0)=l:=by
  rw[List.getD_eq_getElem?_getD,List.getElem?_eq_getElem h];exact List.set_getElem_self h
 rw[e]at h1;exact h1
theorem r0T (r x:Int) (l:List Int):(r::l).count x=(if r=x then 1 else 0)+l.count x:=by
 rw[List.count_cons];by_cases e:r=x<;>simp[e]<;>omega
theorem d1J {l:List Int} {k:Nat} {x:Int} (h:x∈l.eraseIdx k):x∈l:=List.mem_of_mem_eraseIdx h
theorem z1O {l:List Int} {k:Nat} (hk:k<l.length) {r x:Int} (h:x∈l.set k r):x=r∨x∈l.eraseIdx k:=by
 have h1:=List.count_pos_iff.2 h;rw[z0S hk]at h1;by_cases e:r=x
 ·exact .inl e.symm
 ·rw[if_neg e]at h1;exact .inr (List.count_pos_iff.1 (by omega))
section
variable {s:St} {G:Gh} {P:List Int}
theorem Inv.mores (l:Nat): ∀(ks:List Int) {s:St} {P:List Int},Inv s G P→Idx s G→(∀k∈ks,a0Y G l k)→d0F ks.length s→P.length+ks.length≤1000000→
 ∃s',i0D (g0N · l) ks s=(.ok (),s')∧Inv s' G (ks++P)∧Stp ks.length 0 s G s' G
 | [],s,P,h,hi,_,_,_=>⟨s,rfl,h,Stp.refl h hi⟩
 |x::ks,s,P,h,hi,hk,hr,hP=>by
  simp only[List.length_cons]at hr hP;have hr':d0F (1+ks.length) s:=hr.le (by omega);have one: ∃s1,g0N x l s=(.ok (),s1)∧Inv s1 G (x::P)∧Stp 1 0 s G s1 G:=by
   by_cases h0:x=0
   ·subst h0;exact⟨s,by unfold g0N;rw[if_pos rfl];rfl,h.add0,(Stp.refl h hi).mono (by omega) (by omega)⟩
   ·have hl:(a0E x G).isSome=true:=(j0Y (hk x (List.mem_cons_self ..))).resolve_left h0;obtain⟨o,ho⟩:=Option.isSome_iff_exists.1 hl;obtain⟨s1,e1,i1,r1,q1,q2,q3,q4⟩:=h.more ho hr.d (by have:=hr.l;omega) (by omega);refine⟨s1,?_,i1,r1,fun k b=>by rw[q1,r1.bits];exact hi k b,fun _ _ h=> .inl h,q2,q3,q4⟩;unfold g0N;rw[if_neg h0];split
    ·unfold s0V;rw[if_neg h0];exact e1
    ·exact e1
  obtain⟨s1,e1,i1,t1⟩:=one;obtain⟨s2,e2,i2,t2⟩:=Inv.mores l ks i1 t1.idx (fun y hy=>hk y (List.mem_cons_of_mem _ hy)) (hr'.go t1.rel) (by simp;omega);refine⟨s2,by unfold i0D;rw[a0A e1];exact e2,i2.perm fun y hy=> ?_,(t1.trans t2).mono (by simp;omega) (by omega)⟩;simp only[List.count_append,List.cons_append,List.count_cons];omega
theorem c2L (k:Nat):e0F.getD k 0=0:=by
 rcases Nat.lt_or_ge k 8 with h|h
 ·have:=g0J (l:=e0F) (i:=k) h;simpa [e0F] using this
 ·rw[List.getD_eq_getElem?_getD,List.getElem?_eq_none (by simpa [e0F] using h)];rfl
theorem s1F {l:List Int} {k j:Nat} (hk:k<l.length) (r:Int):(l.set k r).getD j 0=if j=k then r else l.getD j 0:=by
 rw[List.getD_eq_getElem?_getD,List.getD_eq_getElem?_getD];by_cases e:j=k
 ·subst e;rw[List.getElem?_set_self hk];simp
 ·rw[List.getElem?_set_ne (Ne.symm e),if_neg e]
theorem Inv.renew (l:Nat) {ks:List Int} (h:Inv s G (ks++P)) (hi:Idx s G) (hl:l<3) (h8:ks.length=8) (hk: ∀k∈ks,a0Y G l k) (hr:d0F 3 s):
 (∃r s' G',(if ks=e0F then ret 0 else a0B (Go.Sb.g0O l ks) fun ss=>e0M (j0B l {kids:=ks,sum:=e0D l ss}):M Int) s=(.ok r,s')∧Inv s' G' (r::P)∧Stp 3 1 s G s' G'∧a0Y G' (l+1) r∧b0E G' r=ks∧(∀b o,a0E b G=some o→a0E b G'=some o))∨
 Fl 1 False (if ks=e0F then ret 0 else a0B (Go.Sb.g0O l ks) fun ss=>e0M (j0B l {kids:=ks,sum:=e0D l ss}):M Int) s:=by
 by_cases hz:ks=e0F
 ·simp only[if_pos hz];refine .inl ⟨0,s,G,rfl,h.perm fun x hx=> ?_,(Stp.refl h hi).mono (by omega) (by omega),.inl rfl,by unfold b0E;rw[h.zero,hz],fun _ _ h=>h⟩;rw[hz,List.count_append,r0T,if_neg (Ne.symm hx)];have:e0F.count x=0:=List.count_eq_zero.2 fun hm=>hx (by simpa [e0F] using hm);omega
 ·simp only[if_neg hz];have e0:=h.rsums l ks hk;have hok:x0C G (.node l ks (e0D l (ks.map (d0N G)))):=⟨hl,h8,hz,hk,rfl⟩;rcases Inv.putN (o:= .node l ks (e0D l (ks.map (d0N G)))) (P:=P) h hi hok (fun _ _ e=>by cases e) hr with ⟨a,s',e1,i1,t1,hn,ha0,_⟩|hf
  ·refine .inl ⟨a,s',_,by rw[a0A e0];exact e1,i1,t1,.inr ⟨_,_,by rw[d0H,if_pos rfl]⟩,by unfold b0E;rw[d0H,if_pos rfl],fun b o hb=> ?_⟩;rw[d0H,if_neg (fun e=>by rw[←e,hn]at hb;cases hb)];exact hb
  ·obtain⟨e,s',h1,h2⟩:=hf;exact .inr ⟨e,s',by rw[a0A e0];exact h1,h2⟩
theorem k1F {G':Gh} (hs: ∀b o,a0E b G=some o→a0E b G'=some o) {k:Int} {l:Nat} (hk:a0Y G l k):k=0∨(a0E k G').isSome=true:=by
 rcases j0Y hk with h|h
 ·exact .inl h
 ·obtain⟨o,ho⟩:=Option.isSome_iff_exists.1 h;exact .inr (by rw[hs _ _ ho];rfl)
theorem s0X {l at_:Nat} (h:at_<8^(l+1)):at_=(b0O l at_).1*8^l+(b0O l at_).2∧(b0O l at_).2<8^l:=by
 have hp:0<8^l:=Nat.pos_of_ne_zero (by simp);have h1:at_/8^l<8:=by rw[Nat.div_lt_iff_lt_mul hp,Nat.mul_comm];rw[Nat.pow_succ]at h;exact h
 unfold b0O;simp only;rw[Nat.mod_eq_of_lt h1,Nat.mul_comm];exact⟨(Nat.div_add_mod _ _).symm,Nat.mod_lt _ hp⟩
theorem z1P {l a b:Nat} (ha:a<8^(l+1)) (hb:b<8^(l+1)):(b0O l a).1=(b0O l b).1∧(b0O l a).2=(b0O l b).2↔a=b:=by
 constructor
 ·rintro⟨h1,h2⟩;rw[(s0X ha).1,(s0X hb).1,h1,h2]
 ·rintro rfl;exact⟨rfl,rfl⟩
theorem Inv.rset: ∀(l:Nat) {s:St} {G:Gh} {P:List Int} {root:Int} {at_:Nat} {to_:Int},Inv s G (root::to_::P)→Idx s G→a0Y G (l+1) root→a0Y G 0 to_→l<3→at_<8^(l+1)→d0F (f0W l) s→P.length+100+100*l≤900000→
 (∃r s' G',Go.Sb.i0F l root at_ to_ s=(.ok r,s')∧Inv s' G' (r::P)∧Stp (f0W l) (l+1) s G s' G'∧a0Y G' (l+1) r∧ ∀j,j<8^(l+1)→c0K G' l r j=if j=at_ then to_ else c0K G l root j)∨
 Fl (l+1) False (Go.Sb.i0F l root at_ to_) s:=by
 intro l
 induction l with
 |zero=>
  intro s G P root at_ to_ h hi hroot hto hl hat hr hP;have hk8:=h.kids hroot;have hsl:(b0O 0 at_).1<(b0E G root).length:=by rw[hk8.1];exact p0M 0 at_
  have hrm:d0F (8+(j0M 1+(21+3))) s:=hr.le (by decide);have e0:=h.loadK hroot;obtain⟨s1,e1,i1,t1⟩:=Inv.mores 0 (b0E G root) h hi hk8.2 (by rw[hk8.1];exact hrm.le (by omega)) (by simp;omega);rw[hk8.1]at t1;have hr1:=hrm.go t1.rel;have i1':Inv s1 G (root::(b0E G root++to_::P)):=i1.perm fun x hx=>by simp only[List.count_append,List.count_cons];omega
  obtain⟨s2,G2,e2,i2,t2,b2⟩:=Inv.rless 1 i1' t1.idx hroot (hr1.le (by omega)) (by simp;omega);have hr2:d0F (21+3) s2:=hr1.go t2.rel;have i2':Inv s2 G2 ((b0E G root).getD (b0O 0 at_).1 0::((b0E G root).eraseIdx (b0O 0 at_).1++to_::P)):=i2.perm fun x hx=>by
   rw[r0T,List.count_append,List.count_append,z1N hsl x];omega
  have hkk:a0Y G2 0 ((b0E G root).getD (b0O 0 at_).1 0):=w0J b2 (hk8.2 _ (g0J hsl)) (by
   by_cases h0:(b0E G root).getD (b0O 0 at_).1 0=0
   ·exact .inl h0
   ·exact .inr (i2'.pend (List.mem_cons_self ..) h0))
  obtain⟨s3,G3,e3,i3,t3,b3⟩:=i2'.xless t2.idx hkk (hr2.le (by omega)) (by simp;rw[List.length_eraseIdx];split<;>omega);have hr3:d0F 3 s3:=hr2.go t3.rel;have b13:Sub G3 G:=b3.trans b2;have i3':Inv s3 G3 ((b0E G root).set (b0O 0 at_).1 to_++P):=i3.perm fun x hx=>by
   rw[List.count_append,List.count_append,r0T,z0S hsl];omega
  have hks: ∀k∈(b0E G root).set (b0O 0 at_).1 to_,a0Y G3 0 k:=fun k hm=>by
   have hp:=i3'.pend (x:=k) (List.mem_append_left _ hm);refine w0J b13 ?_ (if h0:k=0 then .inl h0 else .inr (hp h0));rcases z1O hsl hm with rfl|h1
   ·exact hto
   ·exact hk8.2 _ (d1J h1)
  have eset:Go.Sb.i0F 0 root at_ to_ s=(if(b0E G root).set (b0O 0 at_).1 to_=e0F then ret 0 else a0B (Go.Sb.g0O 0 ((b0E G root).set (b0O 0 at_).1 to_)) fun ss=>e0M (j0B 0 {kids:=(b0E G root).set (b0O 0 at_).1 to_,sum:=e0D 0 ss}):M Int) s3:=by
   unfold Go.Sb.i0F;rw[a0A e0];simp only;rw[a0A e1,a0A (show u0E root 0 s1=_ from e2),a0A (show(a0B (Go.Sb.g0D ((b0E G root).getD (b0O 0 at_).1 0)) fun _=>ret to_) s2=(.ok to_,s3) by rw[a0A e3];rfl)]
  have t123:=(t1.trans t2).trans t3;rcases Inv.renew 0 i3' t3.idx (by omega) (by simp[hk8.1]) hks hr3 with ⟨r,s4,G4,e4,i4,t4,k4,q4,sup4⟩|hf
  ·refine .inl ⟨r,s4,G4,by rw[eset,e4],i4,(t123.trans t4).mono (by simp only[f0W];omega) (by omega),k4,fun j hj=> ?_⟩;unfold c0K;rw[q4,s1F hsl];have:=z1P (l:=0) hj hat;have h2:(b0O 0 j).2=(b0O 0 at_).2:=by simp[b0O,Nat.mod_one]
   by_cases e:j=at_
   ·rw[if_pos e,if_pos (by rw[e])]
   ·rw[if_neg e,if_neg (fun e2=>e (this.1 ⟨e2,h2⟩))]
  ·obtain⟨e,s',h1,h2⟩:=hf;refine .inr ⟨e,s',by rw[eset,h1],h2.imp (fun⟨a,b⟩=>⟨a,?_⟩) id⟩;have:=t123.rel.room;have:=t123.keep;omega
 |succ l ih=>
  intro s G P root at_ to_ h hi hroot hto hl hat hr hP;have hk8:=h.kids hroot;have hsl:(b0O (l+1) at_).1<(b0E G root).length:=by rw[hk8.1];exact p0M (l+1) at_
  have hrm:d0F (8+(j0M (l+2)+(f0W l+3))) s:=hr.le (by simp only[f0W];omega);have e0:=h.loadK hroot;obtain⟨s1,e1,i1,t1⟩:=Inv.mores (l+1) (b0E G root) h hi hk8.2 (by rw[hk8.1];exact hrm.le (by omega)) (by simp;omega);rw[hk8.1]at t1;have hr1:=hrm.go t1.rel;have i1':Inv s1 G (root::(b0E G root++to_::P)):=i1.perm fun x hx=>by simp only[List.count_append,List.count_cons];omega
  obtain⟨s2,G2,e2,i2,t2,b2⟩:=Inv.rless (l+2) i1' t1.idx hroot (hr1.le (by omega)) (by simp;omega);have hr2:d0F (f0W l+3) s2:=hr1.go t2.rel;have i2':Inv s2 G2 ((b0E G root).getD (b0O (l+1) at_).1 0::to_::((b0E G root).eraseIdx (b0O (l+1) at_).1++P)):=i2.perm fun x hx=>by
   rw[r0T,r0T,List.count_append,List.count_append,r0T,z1N hsl x];omega
  have live2: ∀k∈b0E G root,a0Y G2 (l+1) k:=fun k hm=>w0J b2 (hk8.2 _ hm) (by
   by_cases h0:k=0
   ·exact .inl h0
   ·exact .inr (i2.pend (List.mem_append_left _ hm) h0))
  have hto2:a0Y G2 0 to_:=w0J b2 hto (by
   by_cases h0:to_=0
   ·exact .inl h0
   ·exact .inr (i2'.pend (List.mem_cons_of_mem _ (List.mem_cons_self ..)) h0))
  have hrest:=(s0X hat).2;rcases ih (at_:=(b0O (l+1) at_).2) i2' t2.idx (live2 _ (g0J hsl)) hto2 (by omega) hrest (hr2.le (by omega)) (by simp;rw[List.length_eraseIdx];split<;>omega)with ⟨r,s3,G3,e3,i3,t3,k3,c3⟩|hf
  ·have hr3:d0F 3 s3:=hr2.go t3.rel;have i3':Inv s3 G3 ((b0E G root).set (b0O (l+1) at_).1 r++P):=i3.perm fun x hx=>by
    rw[r0T,List.count_append,List.count_append,z0S hsl];omega
   have live3: ∀k∈(b0E G root).eraseIdx (b0O (l+1) at_).1,k=0∨(a0E k G3).isSome=true:=fun k hm=>by
    by_cases h0:k=0
    ·exact .inl h0
    ·exact .inr (i3.pend (List.mem_cons_of_mem _ (List.mem_append_left _ hm)) h0)
   have hks: ∀k∈(b0E G root).set (b0O (l+1) at_).1 r,a0Y G3 (l+1) k:=fun k hm=>by
    rcases z1O hsl hm with rfl|h1
    ·exact k3
    ·exact i2.kidSame t3.old (live2 _ (d1J h1)) (live3 _ h1)
   have eset:Go.Sb.i0F (l+1) root at_ to_ s=(if(b0E G root).set (b0O (l+1) at_).1 r=e0F then ret 0 else a0B (Go.Sb.g0O (l+1) ((b0E G root).set (b0O (l+1) at_).1 r)) fun ss=>e0M (j0B (l+1) {kids:=(b0E G root).set (b0O (l+1) at_).1 r,sum:=e0D (l+1) ss}):M Int) s3:=by
    conv=>lhs;unfold Go.Sb.i0F
    rw[a0A e0];simp only;rw[a0A e1,a0A (show u0E root (l+1) s1=_ from e2),a0A e3]
   have t123:=(t1.trans t2).trans t3;rcases Inv.renew (l+1) i3' t3.idx hl (by simp[hk8.1]) hks hr3 with ⟨r',s4,G4,e4,i4,t4,k4,q4,sup4⟩|hf
   ·refine .inl ⟨r',s4,G4,by rw[eset,e4],i4,(t123.trans t4).mono (by simp only[f0W];omega) (by omega),k4,fun j hj=> ?_⟩;have hjs:=s0X hj;have old24: ∀b o,a0E b G4=some o→a0E b G2=some o∨j0V s2 b:=(t3.trans t4).old;have old14: ∀b o,a0E b G4=some o→a0E b G=some o∨j0V s b:=(t123.trans t4).old
    conv=>lhs;unfold c0K
    rw[q4,s1F hsl];have hse:=z1P (l:=l+1) hj hat;by_cases e1:(b0O (l+1) j).1=(b0O (l+1) at_).1
    ·rw[if_pos e1];have m3:=i3.mapSame i4 t4.old l k3 (k1F sup4 k3) (b0O (l+1) j).2;rw[m3.1,c3 _ hjs.2];by_cases e:j=at_
     ·rw[if_pos e,if_pos (by rw[e])]
     ·rw[if_neg e,if_neg (fun e2=>e (hse.1 ⟨e1,e2⟩))];have m2:=h.mapSame i2 (fun b o hb=> .inl (b2 b o hb)) l (hk8.2 _ (g0J hsl)) (j0Y (live2 _ (g0J hsl))) (b0O (l+1) j).2;rw[m2.1]
      conv=>rhs;unfold c0K
      rw[e1]
    ·rw[if_neg e1,if_neg (fun e=>e1 (by rw[e]))];have hsj:(b0O (l+1) j).1<(b0E G root).length:=by rw[hk8.1];exact p0M (l+1) j
     have hm:(b0E G root).getD (b0O (l+1) j).1 0∈(b0E G root).eraseIdx (b0O (l+1) at_).1:=by
      rw[List.mem_eraseIdx_iff_getElem?];exact⟨(b0O (l+1) j).1,e1,by rw[List.getD_eq_getElem?_getD,List.getElem?_eq_getElem hsj];rfl⟩
     have hk3:=i2.kidSame t3.old (live2 _ (d1J hm)) (live3 _ hm);have m:=h.mapSame i4 old14 l (hk8.2 _ (g0J hsj)) (k1F sup4 hk3) (b0O (l+1) j).2;rw[m.1]
     conv=>rhs;unfold c0K
   ·obtain⟨e,s',h1,h2⟩:=hf;refine .inr ⟨e,s',by rw[eset,h1],h2.imp (fun⟨a,b⟩=>⟨a,?_⟩) id⟩;have:=t123.rel.room;have:=t123.keep;omega
  ·obtain⟨e,s',h1,h2⟩:=hf;have t12:=t1.trans t2;refine .inr ⟨e,s',?_,h2.imp (fun⟨a,b⟩=>⟨a,?_⟩) id⟩
   ·conv=>lhs;unfold Go.Sb.i0F
    rw[a0A e0];simp only;rw[a0A e1,a0A (show u0E root (l+1) s1=_ from e2),a0I h1]
   ·have:=t12.rel.room;have:=t12.keep;omega
end
end
end Go.Sb

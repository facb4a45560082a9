/- Part of the proof; no statement of its own. -/
import Derived.Test.YtpinhnikemamjaaGreatDoorS11
import Derived.Test.YtpinhnikemamjaaGreatDoorS10
set_option linter.all false
set_option maxRecDepth 4000
set_option maxHeartbeats 4000000
namespace Go.Sb
section
def a0Z (G:Gh) (root:Int) (j:Nat):B:=if j<512 then d0F G (c0P G 2 root j)else a0L 256
section
variable {s:St} {G:Gh} {P:List Int}
theorem Inv.leaf_len (h:Inv s G P) {a:Int} (_:a0W G 0 a):(d0F G a).length=256:=by
 unfold d0F;split
 ·rename_i d ats ho;exact(h.typ a _ ho).1
 ·exact j0M 256
theorem Inv.map_len (h:Inv s G P) {root:Int} (hr:a0W G 3 root) (j:Nat):(a0Z G root j).length=256:=by
 unfold a0Z;split
 ·exact h.leaf_len (h.leafKid 2 hr j)
 ·exact j0M 256
theorem Inv.mapKeep (h:Inv s G P) {s':St} {G':Gh} {P':List Int} (h':Inv s' G' P') (old: ∀b o,a0C b G'=some o→a0C b G=some o∨k0G s b) {root:Int} (hk:a0W G 3 root) (hl:root=0∨(a0C root G').isSome=true):a0Z G' root=a0Z G root:=by
 funext j;unfold a0Z;split
 ·have m:=h.mapSame h' old 2 hk hl j;rw[m.1];exact h.leafSame old h'.zero m.2.1 m.2.2
 ·rfl
theorem Inv.mset {root to_:Int} {at_:Nat} (h:Inv s G (root::to_::P)) (hi:Idx s G) (hroot:a0W G 3 root) (hto:a0W G 0 to_) (hat:at_<512) (hr:d0J (g0H 2) s) (hP:P.length≤800000):
 (∃r s' G',m0G root at_ to_ s=(.ok r,s')∧Inv s' G' (r::P)∧Stp (g0H 2) 3 s G s' G'∧a0W G' 3 r∧ ∀j,j<512→c0P G' 2 r j=if j=at_ then to_ else c0P G 2 root j)∨Fl 3 False (m0G root at_ to_) s:=by
 unfold Go.Sb.m0G;rw[show(a0B (Go.Sb.l0E 2 root at_) fun x=>if x=to_ then a0B (Go.Sb.g0O to_) fun _=>ret root else Go.Sb.i0W 2 root at_ to_:M Int) s=(if c0P G 2 root at_=to_ then a0B (Go.Sb.g0O to_) fun _=>ret root else Go.Sb.i0W 2 root at_ to_:M Int) s from a0A (h.rget 2 hroot at_)];have efl:Fl 3 False (if c0P G 2 root at_=to_ then a0B (Go.Sb.g0O to_) fun _=>ret root else Go.Sb.i0W 2 root at_ to_:M Int) s→Fl 3 False (a0B (Go.Sb.l0E 2 root at_) fun x=>if x=to_ then a0B (Go.Sb.g0O to_) fun _=>ret root else Go.Sb.i0W 2 root at_ to_:M Int) s:=by
  rintro⟨e,s',h1,h2⟩;exact⟨e,s',by rw[a0A (h.rget 2 hroot at_)];exact h1,h2⟩
 by_cases he:c0P G 2 root at_=to_
 ·rw[if_pos he];have h':Inv s G (to_::root::P):=h.perm fun x hx=>by simp only[List.count_cons];omega
  obtain⟨s1,G1,e1,i1,t1,b1⟩:=h'.xless hi hto (hr.le (by decide)) (by simp;omega);have hk1:a0W G1 3 root:=x0H b1 hroot (if h0:root=0 then .inl h0 else .inr (i1.pend (List.mem_cons_self ..) h0));refine .inl ⟨root,s1,G1,by rw[a0A e1];rfl,i1,t1.mono (by decide) (by omega),hk1,fun j hj=> ?_⟩;rw[(h.mapSame i1 (fun b o hb=> .inl (b1 b o hb)) 2 hroot (k0I hk1) j).1];split
  ·rename_i e;rw[e,he]
  ·rfl
 ·rw[if_neg he];rcases Inv.rset 2 h hi hroot hto (by omega) hat hr (by omega)with h1|h1
  ·exact .inl h1
  ·exact .inr (efl (by rw[if_neg he];exact h1))
def upd (m:Nat→B) (i:Nat) (d:B):Nat→B:=fun j=>if j=i then d else m j
theorem Inv.cset {x:Ent} {i:Nat} {data:B} (h:Inv s G (x.root::P)) (hi:Idx s G) (hroot:a0W G 3 x.root) (hat:i<512) (hd:data.length=256) (hr:d0J (16+g0H 2) s) (hP:P.length≤700000):
 (∃r s' G',r0Y x i data s=(.ok {x with root:=r},s')∧Inv s' G' (r::P)∧Stp (16+g0H 2) 8 s G s' G'∧a0W G' 3 r∧a0Z G' r=upd (a0Z G x.root) i data∧(a0R data=false→ ¬g1R G s.bits data))∨
 Fl 8 (a0R data=false∧g1R G s.bits data) (r0Y x i data) s:=by
 unfold Go.Sb.r0Y;rcases h.xput hi hd (hr.le (by omega)) (by simp;omega)with ⟨a,s1,G1,e1,i1,t1,k1,l1,c1⟩|hf
 ·have i1':Inv s1 G1 (x.root::a::P):=i1.perm fun y hy=>by simp only[List.count_cons];omega
  have hk1:a0W G1 3 x.root:=h.kidSame t1.old hroot (if h0:x.root=0 then .inl h0 else .inr (i1'.pend (List.mem_cons_self ..) h0));rcases i1'.mset t1.idx hk1 k1 hat (hr.go t1.rel) (by omega)with ⟨r,s2,G2,e2,i2,t2,k2,c2⟩|hf
  ·refine .inl ⟨r,s2,G2,by rw[a0A e1,a0A e2];rfl,i2,t1.trans t2,k2,?_,c1⟩;funext j;by_cases hj:j<512
   case neg=>unfold upd a0Z;rw[if_neg hj,if_neg hj,if_neg (by omega)]
   have hl:=c2 j hj;have hk:=k0I (i2.leafKid 2 k2 j);unfold upd a0Z;rw[if_pos hj,if_pos hj];rw[hl]at hk ⊢;by_cases e:j=i
   ·rw[if_pos e]at hk ⊢;rw[if_pos e,i1.leafSame t2.old i2.zero k1 hk,l1]
   ·rw[if_neg e]at hk ⊢;rw[if_neg e];have m:=h.mapSame i1 t1.old 2 hroot (k0I hk1) j;rw[m.1]at hk ⊢;exact h.leafSame (t1.trans t2).old i2.zero m.2.1 hk
  ·exact .inr (Fl.there e1 t1.rel t1.keep (hf.here (Nat.le_refl _) False.elim) (by omega) id)
 ·exact .inr (hf.here (by omega) id)
theorem h0R {a:Int} : ∀ {G:Gh},n0C G a≠0→ ∃p∈G,a∈d0O p.2
 | [],h=>by simp[n0C]at h
 | (b,o)::G,h=>by
  rw[o0L]at h;by_cases e:(d0O o).count a=0
  ·obtain⟨p,hp,hk⟩:=h0R (a:=a) (G:=G) (by omega);exact⟨p,List.mem_cons_of_mem _ hp,hk⟩
  ·exact⟨(b,o),List.mem_cons_self ..,List.count_pos_iff.1 (Nat.pos_of_ne_zero e)⟩
theorem Inv.wants (h:Inv s G P) {a:Int} {o:Ob} (ho:a0C a G=some o):a∈P∨ ∃b u,a0C b G=some u∧a∈d0O u:=by
 have:=h.need_pos ho;unfold f0C at this;by_cases e:P.count a=0
 ·obtain⟨⟨b,u⟩,hp,hk⟩:=h0R (a:=a) (G:=G) (by omega);exact .inr ⟨b,u,(e0D h.nod).2 hp,hk⟩
 ·exact .inl (List.count_pos_iff.1 (by omega))
theorem Inv.above (h:Inv s G P) {a:Int} {o:Ob} (ho:a0C a G=some o) (hnp: ∀b,o≠ .part b):a∈P∨ ∃b l ks sm,a0C b G=some (.node l ks sm)∧a∈ks∧a0W G l a∧l<3:=by
 rcases h.wants ho with h1| ⟨b,u,hb,hk⟩
 ·exact .inl h1
 ·have hok:=h.typ b u hb;cases u with
  |part b=>cases hk
  |ext d ats=>
   rcases z0B hok a hk with rfl| ⟨b',hb'⟩
   ·exact(h.ne0 ho rfl).elim
   ·rw[ho]at hb';cases hb';exact(hnp b' rfl).elim
  |node l ks sm=>exact .inr ⟨b,l,ks,sm,hb,hk,hok.2.2.2.1 a hk,hok.1⟩
theorem j1G {l:List Int} {x:Int} (h:x∈l): ∃k,k<l.length∧l.getD k 0=x:=by
 obtain⟨k,hk,rfl⟩:=List.getElem_of_mem h;exact⟨k,hk,by rw[List.getD_eq_getElem?_getD,List.getElem?_eq_getElem hk];rfl⟩
theorem Inv.reach (h:Inv s G P) (hP: ∀r∈P,a0W G 3 r) {a:Int} {d:B} {ats:List Int} (ho:a0C a G=some (.ext d ats)): ∃r∈P,∃j,j<512∧c0P G 2 r j=a:=by
 have notP: ∀ {b:Int} {u:Ob},a0C b G=some u→(∀ks sm,u≠ .node 2 ks sm)→b ∉ P:=fun hb hn hm=>by
  rcases hP _ hm with h0| ⟨ks,sm,e⟩
  ·exact h.ne0 hb h0
  ·rw[hb]at e;cases e;exact hn _ _ rfl
 rcases h.above ho (fun _ e=>by cases e)with h1| ⟨b0,l0,ks0,sm0,hb0,hm0,hk0,_⟩
 ·exact(notP ho (fun _ _ e=>by cases e) h1).elim
 have hl0:l0=0:=by
  cases l0 with
  |zero=>rfl
  |succ l=>
   rcases hk0 with h0| ⟨_,_,e⟩
   ·exact(h.ne0 ho h0).elim
   ·rw[ho]at e;cases e
 subst hl0;rcases h.above hb0 (fun _ e=>by cases e)with h1| ⟨b1,l1,ks1,sm1,hb1,hm1,hk1,_⟩
 ·exact(notP hb0 (fun _ _ e=>by cases e) h1).elim
 have hl1:l1=1:=by
  cases l1 with
  |zero=>
   rcases hk1 with h0| ⟨_,_,e⟩
   ·exact(h.ne0 hb0 h0).elim
   ·rw[hb0]at e;cases e
  |succ l=>
   rcases hk1 with h0| ⟨_,_,e⟩
   ·exact(h.ne0 hb0 h0).elim
   ·rw[hb0]at e;cases e;rfl
 subst hl1;rcases h.above hb1 (fun _ e=>by cases e)with h1| ⟨b2,l2,ks2,sm2,hb2,hm2,hk2,_⟩
 ·exact(notP hb1 (fun _ _ e=>by cases e) h1).elim
 have hl2:l2=2:=by
  cases l2 with
  |zero=>
   rcases hk2 with h0| ⟨_,_,e⟩
   ·exact(h.ne0 hb1 h0).elim
   ·rw[hb1]at e;cases e
  |succ l=>
   rcases hk2 with h0| ⟨_,_,e⟩
   ·exact(h.ne0 hb1 h0).elim
   ·rw[hb1]at e;cases e;rfl
 subst hl2;rcases h.above hb2 (fun _ e=>by cases e)with h1| ⟨b3,l3,ks3,sm3,hb3,hm3,hk3,hl3⟩
 ·obtain⟨k0,hk0,e0⟩:=j1G hm0;obtain⟨k1,hk1,e1⟩:=j1G hm1;obtain⟨k2,hk2,e2⟩:=j1G hm2;have t0:=(h.typ _ _ hb0).2.1;have t1:=(h.typ _ _ hb1).2.1;have t2:=(h.typ _ _ hb2).2.1;refine⟨b2,h1,k2*64+k1*8+k0,by omega,?_⟩;have s2:b0Q 2 (k2*64+k1*8+k0)=(k2,k1*8+k0):=by simp only[b0Q,Nat.reducePow,Prod.mk.injEq];omega
  have s1:b0Q 1 (k1*8+k0)=(k1,k0):=by simp only[b0Q,Nat.reducePow,Prod.mk.injEq];omega
  have s0:b0Q 0 k0=(k0,0):=by simp only[b0Q,Nat.reducePow,Prod.mk.injEq];omega
  have q: ∀ {b:Int} {l:Nat} {ks:List Int} {sm:B},a0C b G=some (.node l ks sm)→b0G G b=ks:=fun hb=>by unfold b0G;rw[hb]
  simp only[c0P,s2,s1,s0,q hb2,q hb1,q hb0,e2,e1,e0]
 ·have:l3=3:=by
   cases l3 with
   |zero=>
    rcases hk3 with h0| ⟨_,_,e⟩
    ·exact(h.ne0 hb2 h0).elim
    ·rw[hb2]at e;cases e
   |succ l=>
    rcases hk3 with h0| ⟨_,_,e⟩
    ·exact(h.ne0 hb2 h0).elim
    ·rw[hb2]at e;cases e;rfl
  omega
def x0Y (Ms:List (Nat→B)) (bits:Nat) (data:B):Prop:= ∃m∈Ms,∃j,j<512∧a0R (m j)=false∧m j≠data∧key bits (Sha.sum (m j))=key bits (Sha.sum data)
theorem Inv.clash (h:Inv s G P) (hP: ∀r∈P,a0W G 3 r) (bits:Nat) (data:B):g1R G bits data↔x0Y (P.map (a0Z G)) bits data:=by
 constructor
 ·rintro⟨a,d,ats,ho,hne,hk⟩;obtain⟨r,hr,j,hj,e⟩:=h.reach hP ho;have hm:a0Z G r j=d:=by unfold a0Z d0F;rw[if_pos hj,e,ho]
  exact⟨a0Z G r,List.mem_map.2 ⟨r,hr,rfl⟩,j,hj,by rw[hm];exact(h.typ _ _ ho).2.1,by rw[hm];exact hne,by rw[hm];exact hk⟩
 ·rintro⟨m,hm,j,hj,hz,hne,hk⟩;obtain⟨r,hr,rfl⟩:=List.mem_map.1 hm;rcases h.leafKid 2 (hP r hr) j with h0| ⟨d,ats,ho⟩
  ·unfold a0Z d0F at hz;rw[h0,h.zero]at hz;simp[d0N]at hz
  ·have hm:a0Z G r j=d:=by unfold a0Z d0F;rw[if_pos hj,ho]
   rw[hm]at hne hk;exact⟨_,d,ats,ho,hne,hk⟩
end
end
section
def t0O (was data:B) (f n:Nat):B:=was.take f++data.take n++was.drop (f+n)
def k0J:Nat→(Nat→B)→Nat→B→(Nat→B)
 |0,m,_,_=>m
 |k+1,m,at_,data=>if data= []then m else
  k0J k (upd m (at_/4) (t0O (m (at_/4)) data (at_%4*64) (min data.length (256-at_%4*64)))) (at_+min data.length (256-at_%4*64)/64) (data.drop (min data.length (256-at_%4*64)))
def j0N (bits:Nat) (Os:List (Nat→B)):Nat→(Nat→B)→Nat→B→Prop
 |0,_,_,_=>False
 |k+1,m,at_,data=>data≠ []∧
  ((a0R (t0O (m (at_/4)) data (at_%4*64) (min data.length (256-at_%4*64)))=false∧x0Y (m::Os) bits (t0O (m (at_/4)) data (at_%4*64) (min data.length (256-at_%4*64))))∨
   j0N bits Os k (upd m (at_/4) (t0O (m (at_/4)) data (at_%4*64) (min data.length (256-at_%4*64)))) (at_+min data.length (256-at_%4*64)/64) (data.drop (min data.length (256-at_%4*64))))
section
variable {s:St} {G:Gh} {P:List Int}
theorem Inv.cget {x:Ent} {i:Nat} (h:Inv s G P) (hroot:a0W G 3 x.root) (hi:i<512):p0K x i s=(.ok (a0Z G x.root i),s):=by
 unfold Go.Sb.p0K;rw[a0A (h.rget 2 hroot i),h.leaf (h.leafKid 2 hroot i)];unfold a0Z;rw[if_pos hi]
theorem t1T {was data:B} {f n:Nat} (hw:was.length=256) (hn:n≤data.length) (hf:f+n≤256):(t0O was data f n).length=256:=by
 unfold t0O;simp;omega
theorem Inv.patch (m0L:Nat) (hC:16+g0H 2=m0L): ∀(n:Nat) (m:Nat) {s:St} {G:Gh} {P:List Int} {x:Ent} {at_:Nat} {data:B},Inv s G (x.root::P)→Idx s G→a0W G 3 x.root→(∀p∈P,a0W G 3 p)→(data.length=0∨at_%4*64+data.length≤256*m)→data.length%64=0→at_*64+data.length≤131072→d0J (m*m0L) s→P.length≤1000→
 (∃r s' G',j0S n x at_ data s=(.ok {x with root:=r},s')∧Inv s' G' (r::P)∧Stp (m*m0L) (m*8) s G s' G'∧a0W G' 3 r∧(∀p∈P,a0W G' 3 p∧a0Z G' p=a0Z G p)∧
  a0Z G' r=k0J n (a0Z G x.root) at_ data∧ ¬j0N s.bits (P.map (a0Z G)) n (a0Z G x.root) at_ data)∨
 Fl (m*8) (j0N s.bits (P.map (a0Z G)) n (a0Z G x.root) at_ data) (j0S n x at_ data) s
 |0,m,s,G,P,x,at_,data,h,hi,hroot,hP,_,_,_,_,_=>
  .inl ⟨x.root,s,G,rfl,h,(Stp.refl h hi).mono (by omega) (by omega),hroot,fun p hp=>⟨hP p hp,rfl⟩,rfl,id⟩
 |n+1,m,s,G,P,x,at_,data,h,hi,hroot,hP,hm,h64,hat,hr,hPl=>by
  by_cases h0:data= []
  ·refine .inl ⟨x.root,s,G,?_,h,(Stp.refl h hi).mono (by omega) (by omega),hroot,fun p hp=>⟨hP p hp,rfl⟩,?_,fun hh=>hh.1 h0⟩
   ·unfold Go.Sb.j0S;rw[if_pos h0];rfl
   ·unfold k0J;rw[if_pos h0]
  ·have hl:data.length≠0:=fun e=>h0 (List.eq_nil_of_length_eq_zero e);obtain⟨m,rfl⟩: ∃m',m=m'+1:=⟨m-1,by omega⟩;have hr':d0J (m0L+m*m0L) s:=hr.le (by rw[Nat.succ_mul];omega);have hi512:at_/4<512:=by omega
   have e1:=h.cget hroot hi512;have hwl:=h.map_len hroot (at_/4);have hnow:(t0O (a0Z G x.root (at_/4)) data (at_%4*64) (min data.length (256-at_%4*64))).length=256:=t1T hwl (by omega) (by omega);have hPall: ∀r∈x.root::P,a0W G 3 r:=fun r hr=>by
    rcases List.mem_cons.1 hr with rfl|h1
    ·exact hroot
    ·exact hP r h1
   have hcl:=h.clash hPall s.bits (t0O (a0Z G x.root (at_/4)) data (at_%4*64) (min data.length (256-at_%4*64)));rcases h.cset (x:=x) (i:=at_/4) hi hroot hi512 hnow (hr'.le (by omega)) (by omega)with ⟨r1,s1,G1,e2,i1,t1,k1,q1,c1⟩|hf
   ·have hP1: ∀p∈P,a0W G1 3 p∧a0Z G1 p=a0Z G p:=fun p hp=>by
     have hl:p=0∨(a0C p G1).isSome=true:=if h0:p=0 then .inl h0 else .inr (i1.pend (List.mem_cons_of_mem _ hp) h0)
     exact⟨h.kidSame t1.old (hP p hp) hl,h.mapKeep i1 t1.old (hP p hp) hl⟩
    have hmap:P.map (a0Z G1)=P.map (a0Z G):=List.map_congr_left fun p hp=>(hP1 p hp).2;have hmlen:(data.drop (min data.length (256-at_%4*64))).length=0∨(at_+min data.length (256-at_%4*64)/64)%4*64+(data.drop (min data.length (256-at_%4*64))).length≤256*m:=by rw[List.length_drop];omega
    have hmod:(data.drop (min data.length (256-at_%4*64))).length%64=0:=by simp;omega
    have hat':(at_+min data.length (256-at_%4*64)/64)*64+(data.drop (min data.length (256-at_%4*64))).length≤131072:=by simp;omega
    have hrec:=Inv.patch m0L hC n m (x:= {x with root:=r1}) (at_:=at_+min data.length (256-at_%4*64)/64) (data:=data.drop (min data.length (256-at_%4*64))) i1 t1.idx k1 (fun p hp=>(hP1 p hp).1) hmlen hmod hat' (hr'.go (t1.rel.mono (by omega) (Nat.le_refl _))) hPl;rw[hmap,show s1.bits=s.bits from t1.rel.bits]at hrec;simp only[q1]at hrec;have ep:Go.Sb.j0S (n+1) x at_ data s=Go.Sb.j0S n {x with root:=r1} (at_+min data.length (256-at_%4*64)/64) (data.drop (min data.length (256-at_%4*64))) s1:=by
     conv=>lhs;unfold Go.Sb.j0S
     rw[if_neg h0];rw[a0A e1];exact a0A e2
    rcases hrec with ⟨r2,s2,G2,e3,i2,t2,k2,p2,q2,n2⟩|hf
    ·refine .inl ⟨r2,s2,G2,by rw[ep,e3],i2,(t1.trans t2).mono (by rw[Nat.succ_mul];omega) (by rw[Nat.succ_mul];omega),k2,fun p hp=>⟨(p2 p hp).1,(p2 p hp).2.trans (hP1 p hp).2⟩,?_,?_⟩
     ·rw[q2];conv=>rhs;unfold k0J
      rw[if_neg h0]
     ·rintro⟨_,⟨hz,hc⟩|hn⟩
      ·exact c1 hz (hcl.2 hc)
      ·exact n2 hn
    ·obtain⟨e,s',h1,h2⟩:=hf;refine .inr ⟨e,s',by rw[ep,h1],h2.imp (fun⟨a,b⟩=>⟨a,?_⟩) (fun⟨a,b⟩=>⟨a,h0,.inr b⟩)⟩;have:=t1.rel.room;have:=t1.keep;rw[Nat.succ_mul];omega
   ·obtain⟨e,s',h1,h2⟩:=hf;refine .inr ⟨e,s',?_,h2.imp (fun⟨a,b⟩=>⟨a,by rw[Nat.succ_mul];omega⟩) (fun⟨a,hz,hc⟩=>⟨a,h0,.inl ⟨hz,hcl.1 hc⟩⟩)⟩
    conv=>lhs;unfold Go.Sb.j0S
    rw[if_neg h0];rw[a0A e1];exact a0F h1
def b1Y (m:Nat→B):Nat→Nat→Nat→B
 |0,_,_=> []
 |k+1,at_,n=>if n=0 then []else((m (at_/4)).drop (at_%4*64)).take (min n (4-at_%4)*64)++b1Y m k (at_+min n (4-at_%4)) (n-min n (4-at_%4))
theorem Inv.creads {x:Ent} (h:Inv s G P) (hroot:a0W G 3 x.root): ∀(k at_ n:Nat),at_+n≤2048→k0D k x at_ n s=(.ok (b1Y (a0Z G x.root) k at_ n),s)
 |0,_,_,_=>rfl
 |k+1,at_,n,hn=>by
  unfold Go.Sb.k0D b1Y;by_cases h0:n=0
  ·rw[if_pos h0,if_pos h0];rfl
  ·rw[if_neg h0,if_neg h0];rw[a0A (h.cget hroot (by omega)),a0A (h.creads hroot k _ _ (by omega))];rfl
theorem Eqv.symm {s t:St} (h:Eqv s t):Eqv t s:=⟨h.fr.symm,h.g.symm,h.gone.symm,h.keep.symm,h.depth.symm,h.bits.symm,h.next.symm,h.epoch.symm,fun x=>(h.refs x).symm,fun x=>(h.young x).symm,fun x=>(h.index x).symm,fun x=>(h.vols x).symm⟩
theorem Inv.eqv (h:Inv s G P) {t:St} (q:Eqv t s) (hm:MOK t) (hrun:t.d.armed=false∧t.d.dead=false) (hlen:t.d.l.length=s.d.l.length) (hd: ∀a:Nat,k0G s a∨n0A t.d a=n0A s.d a):Inv t G P:=by
 refine⟨⟨hm,by rw[q.keep];exact h.u.keep,fun a ha=> ?_,hrun,by rw[hlen,q.fr,q.g];exact h.u.size,by rw[q.gone,q.fr,q.g];exact h.u.late⟩,h.nod,by rw[q.fr];exact h.lo,by rw[q.fr,q.g];exact h.hi,fun a ha=> ?_,h.live,h.zero,fun a=> ?_,fun a o ho=> ?_,h.typ,by rw[q.g];exact h.cnt,h.lone⟩
 ·rw[q.fr,q.g];exact h.u.held a (by rw[←q.refs a];exact ha)
 ·rw[q.refs a];exact h.refs a ha
 ·rw[q.fr,q.g];exact h.held a
 ·rw[←h.disk a o ho];rcases hd a.toNat with h1|h1
  ·have hr:=h.range ho;rw[show((a.toNat:Nat):Int)=a by omega]at h1;rw[h.free_none h1]at ho;cases ho
  ·exact h1
theorem Idx.eqv (h:Idx s G) {t:St} (q:Eqv t s):Idx t G:=fun k a=>by rw[q.index k,q.bits];exact h k a
theorem Inv.undone (h:Inv s G P) (hi:Idx s G) (hlog:s.log= []) {t:St} {c k:Nat} (r:Rel c k s t):Inv (d0M s.log.length t) G P∧Idx (d0M s.log.length t) G∧Eqv (d0M s.log.length t) s∧(d0M s.log.length t).log= []:=by
 obtain⟨l,e,n,q⟩:=r.log;rw[hlog,List.nil_append]at e;have e1:d0M s.log.length t= {e0O t l with log:= []} :=by
  unfold d0M;rw[hlog,e];rfl
 rw[e1];have q':Eqv {e0O t l with log:= []} s:=⟨q.fr,q.g,q.gone,q.keep,q.depth,q.bits,q.next,q.epoch,q.refs,q.young,q.index,q.vols⟩;have hd:=(x0E t l).1;have hm:=v0R r.ok.m l;refine⟨h.eqv q' ⟨hm.refs,hm.young,hm.index,hm.vols⟩ ?_ ?_ ?_,hi.eqv q',q',rfl⟩
 ·show(e0O t l).d.armed=false∧(e0O t l).d.dead=false;rw[hd];exact r.ok.run
 ·show(e0O t l).d.l.length=_;rw[hd,r.ok.size,h.u.size,r.fr,r.glen]
 ·intro a;show k0G s a∨n0A (e0O t l).d a=_;rw[hd];exact r.disk a
end
end
section
theorem e1M (fr:Nat): ∀(l:List Int) (g:List Nat),l.Nodup→(∀a∈l,isB fr g a 2=true)→
 (l.foldl (fun g a=>mvL fr (mvL fr g a 2 1) a 1 0) g).length=g.length∧(∀x,isB fr (l.foldl (fun g a=>mvL fr (mvL fr g a 2 1) a 1 0) g) x 1=isB fr g x 1)∧
 (l.foldl (fun g a=>mvL fr (mvL fr g a 2 1) a 1 0) g).count 1=g.count 1∧g.count 0≤(l.foldl (fun g a=>mvL fr (mvL fr g a 2 1) a 1 0) g).count 0
 | [],g,_,_=>⟨rfl,fun _=>rfl,rfl,Nat.le_refl _⟩
 |a::l,g,hn,h2=>by
  rw[List.nodup_cons]at hn;have ha:=h2 a (List.mem_cons_self ..);have hb1: ∀b x,isB fr (mvL fr g a 2 1) b x=if b=a then decide (1=x)else isB fr g b x:=fun b x=>l0F ha
  have ha1:isB fr (mvL fr g a 2 1) a 1=true:=by rw[hb1,if_pos rfl];rfl
  have hb2: ∀b x,isB fr (mvL fr (mvL fr g a 2 1) a 1 0) b x=if b=a then decide (0=x)else isB fr (mvL fr g a 2 1) b x:=fun b x=>l0F ha1
  have hc1:=fun x=>q0S (x:=x) (w:=1) ha;have hc2:=fun x=>q0S (x:=x) (w:=0) ha1;obtain⟨i1,i2,i3,i4⟩:=e1M fr l (mvL fr (mvL fr g a 2 1) a 1 0) hn.2 (fun b hb=>by
   have hne:b≠a:=fun e=>hn.1 (e▸hb);rw[hb2,if_neg hne,hb1,if_neg hne];exact h2 b (List.mem_cons_of_mem _ hb))
  rw[List.foldl_cons];refine⟨by rw[i1,l0Q,l0Q],fun x=> ?_,?_,?_⟩
  ·rw[i2,hb2];split
   ·rename_i e;subst e;cases hx:isB fr g x 1 with
    |false=>rfl
    |true=>exact absurd (a1N hx ha) (by decide)
   ·rename_i e;rw[hb1,if_neg e]
  ·rw[i3];have:=hc1 1;have:=hc2 1;simp at*;omega
  ·have:=hc1 0;have:=hc2 0;simp at*;omega
def fin (t:St):St:=u0F {t with depth:=0,log:= []}
section
variable {s t:St} {G:Gh} {P:List Int}
theorem Inv.other (h:Inv s G P) (hfr:t.fr=s.fr) (hg:t.g=s.g) (hr:t.refs=s.refs) (hd:t.d=s.d) (hgo:t.gone=s.gone) (hm:MOK t) (hk:0≤t.keep):Inv t G P:=by
 refine⟨⟨hm,hk,fun a ha=> ?_,by rw[hd];exact h.u.run,by rw[hd,hfr,hg];exact h.u.size,by rw[hgo,hfr,hg];exact h.u.late⟩,h.nod,by rw[hfr];exact h.lo,by rw[hfr,hg];exact h.hi,fun a ha=>by rw[hr];exact h.refs a ha,h.live,h.zero,fun a=>by rw[hfr,hg];exact h.held a,
  fun a o ho=>by rw[hd];exact h.disk a o ho,h.typ,by rw[hg];exact h.cnt,h.lone⟩
 rw[hfr,hg];exact h.u.held a (by rw[←hr];exact ha)
theorem Inv.fin (h:Inv t G P):Inv (fin t) G P:=by
 obtain⟨f1,f2,f3,f4⟩:=e1M t.fr t.gone t.g h.u.late.1 h.u.late.2;refine⟨⟨⟨h.u.m.refs,h.u.m.young,h.u.m.index,h.u.m.vols⟩,h.u.keep,fun a ha=> ?_,h.u.run,?_,⟨List.nodup_nil,by intro a ha;cases ha⟩⟩,h.nod,h.lo,?_,h.refs,h.live,h.zero,fun a=> ?_,h.disk,h.typ,?_,h.lone⟩
 ·exact(f2 a).trans (h.u.held a ha)
 ·show t.d.l.length=t.fr+_;rw[h.u.size];exact congrArg _ f1.symm
 ·show t.fr+_≤65535;have:=h.hi;exact(congrArg (t.fr+ ·) f1)▸this
 ·refine Iff.trans ?_ (h.held a);rw[←f2 a];rfl
 ·exact h.cnt.trans f3.symm
theorem x0Z (h:Inv t G P):a0Y t≤a0Y (fin t):=(e1M t.fr t.gone t.g h.u.late.1 h.u.late.2).2.2.2
theorem t1V (h1:s.depth=0) (h2:s.log= []) (h3:s.gone= []):fin {s with depth:=1} =s:=by
 obtain⟨d,fr,g,refs,young,gone,keep,log,depth,bits,index,vols,next,epoch⟩:=s;simp only at h1 h2 h3;subst h1 h2 h3;rfl
def g0Q (s:St):List Int:=s.vols.map (·.2.root)
structure CI (s:St) (G:Gh):Prop where
 inv:Inv s G (g0Q s)
 idx:Idx s G
 kid: ∀p∈s.vols,a0W G 3 p.2.root
 ids: ∀p∈s.vols,p.2.id=p.1∧1≤p.2.size∧p.2.size≤2048
 dep:s.depth=0
 log:s.log= []
 gone:s.gone= []
 few:s.vols.length≤16
theorem CI.fin {t:St} (h:Inv t G (g0Q t)) (hi:Idx t G) (hk: ∀p∈t.vols,a0W G 3 p.2.root) (hids: ∀p∈t.vols,p.2.id=p.1∧1≤p.2.size∧p.2.size≤2048) (hf:t.vols.length≤16):CI (fin t) G:=
 ⟨h.fin,hi,hk,hids,rfl,rfl,rfl,hf⟩
def start (s:St) (more:Nat):St:= {s with depth:=1,log:= [.keep s.keep],keep:=(2*(s.vols.length+more):Nat)}
theorem CI.start (h:CI s G) (more:Nat):Inv (start s more) G (g0Q s)∧Idx (start s more) G:=
 ⟨h.inv.other rfl rfl rfl rfl rfl ⟨h.inv.u.m.refs,h.inv.u.m.young,h.inv.u.m.index,h.inv.u.m.vols⟩ (by show 0≤((2*(s.vols.length+more):Nat):Int);omega),h.idx⟩
theorem CI.deep (h:CI s G):Inv {s with depth:=1} G (g0Q s):=h.inv.other rfl rfl rfl rfl rfl ⟨h.inv.u.m.refs,h.inv.u.m.young,h.inv.u.m.index,h.inv.u.m.vols⟩ h.inv.u.keep
theorem CI.keepd (h:CI s G) (more:Nat):o0R (2*(s.vols.length+more:Nat)) {s with depth:=1} =(.ok (),Go.Sb.start s more):=by
 unfold o0R x0A a0B back;simp only[h.log,List.length_nil];rw[if_neg (by omega)];simp only[bk,Nat.zero_lt_one,if_true,List.nil_append];unfold Go.Sb.start;rw[show max (2*((s.vols.length+more:Nat):Int)) 0=((2*(s.vols.length+more):Nat):Int) by omega]
theorem CI.rel (h:CI s G) (more:Nat):Rel 1 0 {s with depth:=1} (Go.Sb.start s more):=by
 have:=o2R (2*(s.vols.length+more:Nat)) {s with depth:=1} Nat.zero_lt_one h.deep.u (by rw[h.keepd more];simp);rw[h.keepd more]at this;exact this
theorem CI.ahead (h:CI s G) {more:Nat} (hr:more=0∨2*(s.vols.length+more)≤a0Y s):k0C more {s with depth:=1} =(.ok (),Go.Sb.start s more):=by
 unfold Go.Sb.k0C;rw[a0A (h.keepd more)];rw[if_neg];rintro⟨h1,h2⟩;have h3:a0Y (Go.Sb.start s more)=a0Y s:=rfl;simp only at h2;rw[h3]at h2;omega
theorem CI.roomC (h:CI s G) {α:Type} {m:M α} {more:Nat} (hr:more=0∨2*(s.vols.length+more)≤a0Y s):e0M more m {s with depth:=1} =m (Go.Sb.start s more):=a0A (h.ahead hr)
theorem h1R (h:CI s G) {c:Nat} (hc:c≤1000000) (more:Nat):d0J c (Go.Sb.start s more):=⟨Nat.zero_lt_one,by show 1+c+10<_;omega,by show s.gone.length+c+10<_;rw[h.gone];simp;omega⟩
theorem q0U {α:Type} {m:M α} (h:CI s G) {a:α} {c k:Nat} (e:m {s with depth:=1} =(.ok a,t)) (r:Rel c k {s with depth:=1} t):i0K m s=(.ok (0,.done a),fin t):=by
 have hd:t.depth=1:=r.depth;have e1:o0I (f0P m) (s,.start)=(.ok 0,(k0T t,.done a)):=by
  unfold o0I;simp only;rw[if_neg (by rw[h.dep];omega)];rw[show({s with depth:=s.depth+1} :St)= {s with depth:=1} by rw[h.dep]];unfold f0P;simp only[e];rw[if_neg (by omega)]
 unfold i0K t1U o0J;rw[a0A e1];simp only;have hl:k0T t= {t with depth:=0,log:= []} :=by unfold k0T;rw[if_pos hd]
 rw[hl,if_pos rfl];rfl
theorem c1A {α:Type} {m:M α} (h:CI s G) {er:Int} {c k:Nat} (e:m {s with depth:=1} =(.err er,t)) (her:er≠0) (r:Rel c k {s with depth:=1} t):i0K m s=(.ok (er,.lost),fin (d0M 0 t)):=by
 have hd:t.depth=1:=r.depth;have hdu:(d0M 0 t).depth=1:=by
  obtain⟨l,e1,n,q⟩:=r.log;have hl:({s with depth:=1} :St).log= []:=h.log;rw[hl,List.nil_append]at e1;have:(e0O t l).depth=1:=q.depth;unfold d0M;rw[List.drop_zero,e1];exact this
 have e1:o0I (f0P m) (s,.start)=(.ok er,(k0T (d0M 0 t),.lost)):=by
  unfold o0I;simp only;rw[if_neg (by rw[h.dep];omega)];rw[show({s with depth:=s.depth+1} :St)= {s with depth:=1} by rw[h.dep]];unfold f0P;simp only[e];rw[if_neg (by rintro(h1|h1);(· omega);(· exact her h1)),h.log];rfl
 unfold i0K t1U o0J;rw[a0A e1];simp only;have hl:k0T (d0M 0 t)= {d0M 0 t with depth:=0,log:= []} :=by unfold k0T;rw[if_pos hdu]
 rw[hl,if_pos rfl];rfl
theorem CI.undone (h:CI s G) {c k:Nat} (r:Rel c k {s with depth:=1} t):CI (Go.Sb.fin (d0M 0 t)) G∧(Go.Sb.fin (d0M 0 t)).vols.Perm s.vols∧meq (Go.Sb.fin (d0M 0 t)).vols s.vols∧(Go.Sb.fin (d0M 0 t)).bits=s.bits∧(Go.Sb.fin (d0M 0 t)).next=s.next∧(Go.Sb.fin (d0M 0 t)).epoch=s.epoch∧a0Y s≤a0Y (Go.Sb.fin (d0M 0 t)):=by
 have hlog:({s with depth:=1} :St).log= []:=h.log;obtain⟨i1,i2,q,_⟩:=h.deep.undone (show Idx {s with depth:=1} G from h.idx) hlog r;rw[show({s with depth:=1} :St).log.length=0 by rw[hlog];rfl]at i1 i2 q;have hp:(d0M 0 t).vols.Perm s.vols:=o2O i1.u.m.vols h.inv.u.m.vols q.vols;have i1':Inv (d0M 0 t) G (g0Q (d0M 0 t)):=i1.perm fun x _=>((hp.map (fun p:Int×Ent=>p.2.root)).count_eq x).symm;refine⟨CI.fin i1' i2 (fun p hp'=>h.kid p (hp.mem_iff.1 hp')) (fun p hp'=>h.ids p (hp.mem_iff.1 hp')) (by rw[hp.length_eq];exact h.few),hp,q.vols,q.bits,q.next,q.epoch,?_⟩;have h1:=x0Z i1;have h2:a0Y (d0M 0 t)=a0Y s:=by unfold a0Y;rw[q.g]
 omega
end
end
section
theorem j1H {K V:Type} [DecidableEq K] {k:K} {v:V} : ∀ {m:List (K×V)},a0C k m=none→b0O k v m=m++ [(k,v)]
 | [],_=>rfl
 | (j,u)::m,h=>by
  unfold a0C at h;split at h
  ·cases h
  ·rename_i e;unfold b0O;rw[if_neg e,j1H h];rfl
theorem j1I {K V:Type} [DecidableEq K] {k j:K} {v:V} : ∀ {m:List (K×V)},a0C k (m++ [(j,v)])=match a0C k m with|some u=>some u|none=>if j=k then some v else none
 | []=>rfl
 | (i,u)::m=>by
  show(if i=k then some u else a0C k (m++ [(j,v)]))=match (if i=k then some u else a0C k m)with|some u=>some u|none=>if j=k then some v else none
  split
  ·rfl
  ·exact j1I
section
variable {s t:St} {G:Gh} {P:List Int}
def e2K (x:Ent) (t:St):Ent:= {x with id:=t.next,born:=t.epoch}
def v0I (x:Ent) (t:St):St:= {t with log:=bk t.depth (bk t.depth t.log (.next t.next)) (.vols t.next (a0C t.next t.vols)),next:=m0Z (t.next+1),vols:=b0O t.next (e2K x t) t.vols}
theorem o1G (x:Ent) {t:St} (hl:t.log.length<999999990):u0I x t=(.ok t.next,v0I x t):=by
 have h2:(bk t.depth t.log (.next t.next)).length<1000000000:=by
  unfold bk;split
  ·rw[List.length_append,List.length_singleton];omega
  ·omega
 unfold u0I p0Y m0H s0R a0B back;simp only;rw[if_neg (by omega)];simp only;rw[if_neg (by omega)];rfl
theorem j2J (h:Inv t G P) (x:Ent):Inv (v0I x t) G P:=h.other rfl rfl rfl rfl rfl ⟨h.u.m.refs,h.u.m.young,h.u.m.index,k0E _ _ h.u.m.vols⟩ h.u.keep
theorem j2K (h:Inv t G P) (x:Ent) (hd:0<t.depth) (hl:t.log.length<999999990):Rel 2 0 t (v0I x t):=by
 have:=t2W x t hd h.u (by rw[o1G x hl];simp);rw[o1G x hl]at this;exact this
theorem CI.more (h:CI s G) {made:M Ent} {x:Ent} {u:St} {c k:Nat} (h16:s.vols.length<16) (hn:a0C s.next s.vols=none) (hroom:2*(s.vols.length+1)≤a0Y s)
 (e:made (Go.Sb.start s 1)=(.ok x,u)) (hi:Inv u G (x.root::g0Q s)) (hx:Idx u G) (hr:Rel c k (Go.Sb.start s 1) u) (hc:c≤1000000) (hv:u.vols=s.vols) (hnx:u.next=s.next) (hk:a0W G 3 x.root) (hs:1≤x.size∧x.size≤2048):
 ∃s',k0K made s=(.ok (s.next,0),s')∧CI s' G∧s'.vols=s.vols++ [(s.next,{x with id:=s.next,born:=s.epoch})]∧s'.next=m0Z (s.next+1)∧s'.epoch=s.epoch∧s'.bits=s.bits∧a0Y s≤a0Y s'+k:=by
 have hd:u.depth=1:=hr.depth;have hep:u.epoch=s.epoch:=hr.epoch;have hlog:u.log.length<999999990:=by have:=hr.len;have h1:(Go.Sb.start s 1).log.length=1:=rfl;omega
 have e1:Go.Sb.e0M 1 (a0B made u0I) {s with depth:=1} =(.ok u.next,v0I x u):=by
  rw[h.roomC (.inr hroom),a0A e,o1G x hlog]
 have r1:Rel (1+(c+2)) (0+(k+0)) {s with depth:=1} (v0I x u):=(h.rel 1).trans (hr.trans (j2K hi x (by omega) hlog));have e2:=q0U h e1 r1;have hvol:(v0I x u).vols=s.vols++ [(s.next,{x with id:=s.next,born:=s.epoch})]:=by
  show b0O u.next (e2K x u) u.vols=_;unfold e2K;rw[hv,hnx,hep,j1H hn]
 have hroots:g0Q (v0I x u)=g0Q s++ [x.root]:=by unfold g0Q;rw[hvol,List.map_append];rfl
 have i1:Inv (v0I x u) G (g0Q (v0I x u)):=by
  rw[hroots];exact(j2J hi x).perm fun y _=>by rw[List.count_append,List.count_cons,List.count_singleton,Nat.add_comm]
 refine⟨Go.Sb.fin (v0I x u),?_,CI.fin i1 hx (fun p hp=> ?_) (fun p hp=> ?_) ?_,hvol,?_,hep,hr.bits,?_⟩
 ·unfold k0K;rw[if_neg (by omega),a0A e2];simp only[b1Z,if_true];rw[hnx];rfl
 ·rw[hvol]at hp;rcases List.mem_append.1 hp with hp|hp
  ·exact h.kid p hp
  ·rw[List.mem_singleton.1 hp];exact hk
 ·rw[hvol]at hp;rcases List.mem_append.1 hp with hp|hp
  ·exact h.ids p hp
  ·rw[List.mem_singleton.1 hp];exact⟨rfl,hs⟩
 ·rw[hvol];simp;omega
 ·show m0Z (u.next+1)=_;rw[hnx]
 ·have h1:=r1.room;have h2:=x0Z i1;have h3:a0Y ({s with depth:=1} :St)=a0Y s:=rfl;omega
theorem CI.create (h:CI s G) {size:Int} (hs:1≤size∧size≤2048) (h16:s.vols.length<16) (hn:a0C s.next s.vols=none) (hroom:2*(s.vols.length+1)≤a0Y s):
 ∃s',f0T size s=(.ok (s.next,0),s')∧CI s' G∧s'.vols=s.vols++ [(s.next,{g0L with size:=size,id:=s.next,born:=s.epoch})]∧s'.next=m0Z (s.next+1)∧s'.epoch=s.epoch∧s'.bits=s.bits∧a0Y s≤a0Y s':=by
 obtain⟨i1,x1⟩:=h.start 1;have e:f0T size s=k0K (ret {g0L with size:=size}) s:=by unfold f0T;rw[if_neg (by omega)]
 rw[e];exact h.more h16 hn hroom (made:=ret {g0L with size:=size}) rfl i1.add0 x1 (Rel.refl i1.u) (by omega) rfl rfl (.inl rfl) hs
theorem CI.copy (h:CI s G) {id:Int} {only:Bool} {x:Ent} (hx:a0C id s.vols=some x) (h16:s.vols.length<16) (hn:a0C s.next s.vols=none) (hroom:2*(s.vols.length+1)≤a0Y s):
 ∃s',h0S id only s=(.ok (s.next,0),s')∧CI s' G∧s'.vols=s.vols++ [(s.next,{g0L with parent:=id,only:=only,size:=x.size,root:=x.root,id:=s.next,born:=s.epoch})]∧s'.next=m0Z (s.next+1)∧s'.epoch=s.epoch∧s'.bits=s.bits∧a0Y s≤a0Y s':=by
 obtain⟨i1,x1⟩:=h.start 1;have hmem:(id,x)∈s.vols:=(e0D h.inv.u.m.vols).1 hx;have hk:=h.kid _ hmem;have hids:=h.ids _ hmem;have e:h0S id only s=k0K (w0L id only) s:=by unfold h0S;rw[hx]
 rw[e];have hf:find id (Go.Sb.start s 1)=(.ok x,Go.Sb.start s 1):=by unfold find;rw[show a0C id (Go.Sb.start s 1).vols=some x from hx]
 by_cases h0:x.root=0
 ·refine h.more (u:=Go.Sb.start s 1) (c:=0) (k:=0) h16 hn hroom (x:= {g0L with parent:=id,only:=only,size:=x.size,root:=x.root}) ?_ ?_ x1 (Rel.refl i1.u) (by omega) rfl rfl hk hids.2
  ·unfold w0L;rw[a0A hf];unfold h0E;rw[if_pos h0];rfl
  ·rw[h0];exact i1.add0
 ·rcases hk with hk| ⟨ks,sm,ho⟩
  ·exact(h0 hk).elim
  ·obtain⟨u,e1,i2,r2,q1,q2,q3,q4⟩:=i1.more ho (fun _ e=>by cases e) Nat.zero_lt_one (by show 1<1000000000;omega) (by unfold g0Q;rw[List.length_map];have:=h.few;omega);have hb2:u.bits=s.bits:=r2.bits;refine h.more (u:=u) (c:=1) (k:=0) h16 hn hroom (x:= {g0L with parent:=id,only:=only,size:=x.size,root:=x.root}) ?_ i2 (fun k a=>by rw[q1,hb2];exact h.idx k a) r2 (by omega) q3 q4 (.inr ⟨ks,sm,ho⟩) hids.2;unfold w0L;rw[a0A hf];have e2:h0E x.root 3 (Go.Sb.start s 1)=(.ok (),u):=by unfold h0E;rw[if_neg h0,if_neg (by decide)];exact e1
   rw[a0A e2];rfl
end
end
section
section
variable {K V:Type} [DecidableEq K]
theorem p0D {k:K} {v:V} : ∀ {m:List (K×V)},a0C k m=some v→m.Perm ((k,v)::b0D k m)
 | [],h=>by cases h
 | (j,u)::m,h=>by
  unfold a0C at h;unfold b0D;split at h
  ·rename_i e;subst e;cases h;rw[if_pos rfl]
  ·rename_i e;rw[if_neg e];exact(List.Perm.cons _ (p0D h)).trans (List.Perm.swap _ _ _)
theorem v0T {k:K} {v w:V} : ∀ {m:List (K×V)},a0C k m=some v→(b0O k w m).Perm ((k,w)::b0D k m)
 | [],h=>by cases h
 | (j,u)::m,h=>by
  unfold a0C at h;unfold b0D b0O;split at h
  ·rename_i e;rw[if_pos e,if_pos e]
  ·rename_i e;rw[if_neg e,if_neg e];exact(List.Perm.cons _ (v0T h)).trans (List.Perm.swap _ _ _)
theorem n0Z {k:K} {p:K×V} : ∀ {m:List (K×V)},p∈b0D k m→p∈m
 | [],h=>h
 | (j,u)::m,h=>by
  unfold b0D at h;split at h
  ·exact List.mem_cons_of_mem _ h
  ·rcases List.mem_cons.1 h with h|h
   ·rw[h];exact List.mem_cons_self ..
   ·exact List.mem_cons_of_mem _ (n0Z h)
end
def m0L:Nat:=16+g0H 2
theorem z0C:m0L≤12666:=by decide
section
variable {s t:St} {G:Gh} {P:List Int}
def o0A (s:St) (G:Gh) (id:Int):List (Nat→B):=(b0D id s.vols).map fun p=>a0Z G p.2.root
def o0B (id:Int) (y:Ent) (t:St):St:= {t with log:=bk t.depth t.log (.vols id (a0C id t.vols)),vols:=b0O id y t.vols}
theorem x0I {y:Ent} {t:St} (hl:t.log.length<1000000000):m0H y t=(.ok (),o0B y.id y t):=by
 unfold m0H s0R a0B back;simp only;rw[if_neg (by omega)];rfl
theorem h1S {x:Ent} {a n:Nat} (h:a+n≤x.size) (hs:x.size≤2048) (s:St):h0J x a n s=(.ok (),s):=by
 unfold h0J l0U;rw[if_neg (by omega),if_neg (by omega)];rfl
theorem CI.write (h:CI s G) {id:Int} {x:Ent} {at_ m:Nat} {data:B} (hx:a0C id s.vols=some x) (ho:x.only=false) (hm:data.length=64*m) (hat:at_+m≤x.size) (hroom:2*s.vols.length+m*8≤a0Y s)
 (hmax:m≤70) (hno: ¬j0N s.bits (o0A s G id) data.length (a0Z G x.root) at_ data):
 ∃s' G' r,h0K id at_ data s=(.ok 0,s')∧CI s' G'∧s'.vols=b0O id {x with root:=r} s.vols∧a0Z G' r=k0J data.length (a0Z G x.root) at_ data∧(∀p∈b0D id s.vols,a0Z G' p.2.root=a0Z G p.2.root)∧
  s'.next=s.next∧s'.epoch=s.epoch∧s'.bits=s.bits∧a0Y s≤a0Y s'+m*8:=by
 obtain⟨i1,x1⟩:=h.start 0;have hmem:(id,x)∈s.vols:=(e0D h.inv.u.m.vols).1 hx;have hids:x.id=id∧1≤x.size∧x.size≤2048:=h.ids _ hmem;have hp:=p0D hx;have hC:=z0C;have hlen:(b0D id s.vols).length≤16:=by have h1:=hp.length_eq;simp only[List.length_cons]at h1;have:=h.few;omega
 have hroots:Inv (Go.Sb.start s 0) G (x.root::(b0D id s.vols).map (·.2.root)):=i1.perm fun y _=>((hp.map (fun p:Int×Ent=>p.2.root)).count_eq y);have hfind:l0Z id (Go.Sb.start s 0)=(.ok x,Go.Sb.start s 0):=by
  unfold l0Z;rw[a0A (show find id (Go.Sb.start s 0)=(.ok x,Go.Sb.start s 0) by unfold find;rw[show a0C id (Go.Sb.start s 0).vols=some x from hx])];rw[if_neg (by simp[ho])];rfl
 have hmaps:((b0D id s.vols).map (·.2.root)).map (a0Z G)=o0A s G id:=by rw[List.map_map];rfl
 have hpat:=Inv.patch m0L rfl data.length m (x:=x) (at_:=at_) (data:=data) hroots x1 (h.kid _ hmem) (fun p hp'=>by obtain⟨q,hq,rfl⟩:=List.mem_map.1 hp';exact h.kid _ (n0Z hq)) (by omega) (by omega) (by omega)
  (h1R h (by have:=Nat.mul_le_mul hmax hC;omega) 0) (by rw[List.length_map];omega)
 rw[hmaps]at hpat;have e0:Go.Sb.e0M 0 (i0X id at_ data) {s with depth:=1} =a0B (e0T x at_ data) m0H (Go.Sb.start s 0):=by
  rw[h.roomC (.inl rfl)];unfold i0X;rw[a0A hfind,if_neg (by omega),show((data.length/64:Nat):Int)=(m:Nat) by omega,a0A (h1S (by omega) (by omega) _),Int.toNat_natCast]
 rcases hpat with ⟨r,u,G',e1,i2,t2,k2,k3,m2,_⟩| ⟨e,u,e1,he⟩
 ·obtain⟨y,hy⟩: ∃y:Ent,y= {x with root:=r} :=⟨_,rfl⟩;have hyid:y.id=id:=by rw[hy];exact hids.1
  have hyr:y.root=r:=by rw[hy]
  have hys:1≤y.size∧y.size≤2048:=by rw[hy];exact hids.2
  rw[←hy]at e1;have hd:u.depth=1:=t2.rel.depth;have hlog:u.log.length<1000000000:=by have:=t2.rel.len;have h1:(Go.Sb.start s 0).log.length=1:=rfl;have:=Nat.mul_le_mul hmax hC;omega
  have hu:u.vols=s.vols:=t2.vols;have e2:Go.Sb.e0M 0 (i0X id at_ data) {s with depth:=1} =(.ok (),o0B id y u):=by
   rw[e0,a0A (show e0T x at_ data (Go.Sb.start s 0)=_ from e1),x0I hlog];rw[hyid]
  have r2:Rel 1 0 u (o0B id y u):=by
   have:=x0G y u (by omega) i2.u (by rw[x0I hlog];simp);rw[x0I hlog,hyid]at this;exact this
  have r3:=(h.rel 0).trans (t2.rel.trans r2);have e3:=q0U h e2 r3;have hvol:(o0B id y u).vols=b0O id y s.vols:=by show b0O _ _ u.vols=_;rw[hu]
  have hpp:=v0T (w:=y) hx;have i3:Inv (o0B id y u) G' (r::(b0D id s.vols).map (·.2.root)):=i2.other rfl rfl rfl rfl rfl ⟨i2.u.m.refs,i2.u.m.young,i2.u.m.index,k0E _ _ i2.u.m.vols⟩ i2.u.keep;have i4:Inv (o0B id y u) G' (g0Q (o0B id y u)):=by
   unfold g0Q;rw[hvol];exact i3.perm fun z _=>by rw[(hpp.map (fun p:Int×Ent=>p.2.root)).count_eq z,List.map_cons,hyr]
  have hmm: ∀p∈(o0B id y u).vols,p=(id,y)∨p∈b0D id s.vols:=fun p hp'=>by
   rw[hvol]at hp';exact List.mem_cons.1 (hpp.mem_iff.1 hp')
  refine⟨Go.Sb.fin (o0B id y u),G',r,?_,CI.fin i4 t2.idx (fun p hp'=> ?_) (fun p hp'=> ?_) ?_,by rw[←hy];exact hvol,m2,fun p hp'=> ?_,?_,r3.epoch,r3.bits,?_⟩
  ·unfold h0K;rw[a0A e3];rfl
  ·rcases hmm p hp' with rfl|hq
   ·show a0W G' 3 y.root;rw[hyr];exact k2
   ·exact(k3 _ (List.mem_map.2 ⟨p,hq,rfl⟩)).1
  ·rcases hmm p hp' with rfl|hq
   ·exact⟨hyid,hys⟩
   ·exact h.ids _ (n0Z hq)
  ·rw[hvol,hpp.length_eq];simp only[List.length_cons];have h1:=hp.length_eq;simp only[List.length_cons]at h1;have:=h.few;omega
  ·exact(k3 _ (List.mem_map.2 ⟨p,hp',rfl⟩)).2
  ·exact t2.next
  ·have h1:=r3.room;have h2:=x0Z i4;have h3:a0Y ({s with depth:=1} :St)=a0Y s:=rfl;omega
 ·rcases he with ⟨_,h8⟩| ⟨_,h9⟩
  ·exfalso;have h3:a0Y (Go.Sb.start s 0)=a0Y s:=rfl;have h4:(Go.Sb.start s 0).keep=((2*(s.vols.length+0):Nat):Int):=rfl;rw[h3,h4]at h8;omega
  ·exact(hno h9).elim
theorem CI.writeErr (h:CI s G) {id at_:Int} {data:B} {er:Int} {t:St} {c k:Nat} (e:i0X id at_ data (Go.Sb.start s 0)=(.err er,t)) (her:er≠0) (r:Rel c k (Go.Sb.start s 0) t):
 ∃s',h0K id at_ data s=(.ok er,s')∧CI s' G∧s'.vols.Perm s.vols∧meq s'.vols s.vols∧s'.bits=s.bits∧s'.next=s.next∧s'.epoch=s.epoch∧a0Y s≤a0Y s':=by
 have e0:Go.Sb.e0M 0 (i0X id at_ data) {s with depth:=1} =(.err er,t):=by rw[h.roomC (.inl rfl)];exact e
 have r3:=(h.rel 0).trans r;obtain⟨u1,u2,u3,u4,u5,u6,u7⟩:=h.undone r3;refine⟨_,?_,u1,u2,u3,u4,u5,u6,u7⟩;unfold h0K;rw[a0A (c1A h e0 her r3)];rfl
theorem CI.read (h:CI s G) {id:Int} {x:Ent} {at_ n:Nat} (hx:a0C id s.vols=some x) (hat:at_+n≤x.size):n0Y id at_ n s=(.ok (b1Y (a0Z G x.root) n at_ n,0),s):=by
 have hmem:(id,x)∈s.vols:=(e0D h.inv.u.m.vols).1 hx;have hids:x.id=id∧1≤x.size∧x.size≤2048:=h.ids _ hmem;have e0:o0S id at_ n {s with depth:=1} =(.ok (b1Y (a0Z G x.root) n at_ n),{s with depth:=1}):=by
  unfold o0S;rw[a0A (show find id {s with depth:=1} =(.ok x,{s with depth:=1}) by unfold find;rw[show a0C id ({s with depth:=1} :St).vols=some x from hx])];rw[a0A (h1S (by omega) (by omega) _),Int.toNat_natCast,Int.toNat_natCast];exact h.deep.creads (h.kid _ hmem) _ _ _ (by omega)
 unfold n0Y;rw[a0A (q0U h e0 (Rel.refl h.deep.u)),t1V h.dep h.log h.gone];rfl
theorem CI.new {n bits:Nat} (hn:n≤60000):CI (f0X (k0Q (n+2)) 2 bits 1) []:=by
 have hg:(f0X (k0Q (n+2)) 2 bits 1).g=List.replicate n 0:=by simp[f0X,k0Q]
 have hc1:(List.replicate n 0).count 1=0:=by rw[List.count_replicate];simp
 have hz: ∀a,isB 2 (List.replicate n 0) a 1=false:=fun a=>by
  cases hb:isB 2 (List.replicate n 0) a 1 with
  |false=>rfl
  |true=>
   have:=(n0O.1 hb).2.2;rw[List.getElem?_replicate]at this;split at this<;>simp at this
 have hu:UOK (f0X (k0Q (n+2)) 2 bits 1):=⟨⟨List.nodup_nil,List.nodup_nil,List.nodup_nil,List.nodup_nil⟩,Int.le_refl _,fun a ha=>(ha rfl).elim,⟨rfl,rfl⟩,(by rw[hg];simp[f0X,k0Q];omega),⟨List.nodup_nil,(by intro a ha;cases ha)⟩⟩;refine⟨⟨hu,List.nodup_nil,rfl,(by rw[hg];show 2+_≤_;simp;omega),fun a _=>rfl,fun a _=> ?_,rfl,fun a=> ?_,fun a o ho=>(by cases ho),fun a o ho=>(by cases ho),?_,fun a b h=>(by cases h)⟩,fun k a=> ?_,fun p hp=>(by cases hp),fun p hp=>(by cases hp),rfl,rfl,rfl,(by show 0≤16;omega)⟩
 ·exact⟨fun h=>(h rfl).elim,fun h=>(by cases h)⟩
 ·rw[hg];show isB 2 _ a 1=true↔_;rw[hz a];exact⟨fun h=>(by cases h),fun h=>(by cases h)⟩
 ·rw[hg,hc1];rfl
 ·exact⟨fun h=>(by cases h),fun⟨d,ats,h,_⟩=>(by cases h)⟩
end
end
end Go.Sb

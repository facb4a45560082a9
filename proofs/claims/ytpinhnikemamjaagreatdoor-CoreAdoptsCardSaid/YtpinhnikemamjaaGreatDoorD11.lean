/- Part of the proof; no statement of its own. -/
import Derived.Test.YtpinhnikemamjaaGreatDoorD10
set_option linter.all false
set_option maxRecDepth 4000
set_option maxHeartbeats 4000000
namespace Go.Sb
section
def Fl {α:Type} (k:Nat) (C:Prop) (m:M α) (s:St):Prop:= ∃e s',m s=(.err e,s')∧(e=8∧(a0Y s:Int)<s.keep+k∨e=9∧C)
theorem Fl.here {α β:Type} {k k':Nat} {C c:Prop} {m:M α} {f:α→M β} {s:St} (h:Fl k C m s) (j:k≤k') (i:C→c):Fl k' c (a0B m f) s:=by
 obtain⟨e,s',d,g⟩:=h;exact⟨e,s',a0F d,g.imp (fun⟨a,b⟩=>⟨a,by omega⟩) (fun⟨a,b⟩=>⟨a,i b⟩)⟩
theorem Fl.there {α β:Type} {c k1 g k':Nat} {C d:Prop} {m:M α} {f:α→M β} {s t:St} {a:α} (h:m s=(.ok a,t)) (r:Rel c k1 s t) (o:t.keep=s.keep) (j:Fl g C (f a) t) (p:k1+g≤k') (n:C→d):Fl k' d (a0B m f) s:=by
 obtain⟨e,s',i,l⟩:=j;refine⟨e,s',by rw[a0A h];exact i,l.imp (fun⟨a,b⟩=>⟨a,?_⟩) (fun⟨a,b⟩=>⟨a,n b⟩)⟩;have:=r.room;omega
theorem Fl.mono {α:Type} {k k':Nat} {C c:Prop} {m:M α} {s:St} (h:Fl k C m s) (i:k≤k') (g:C→c):Fl k' c m s:=by
 obtain⟨e,s',d,f⟩:=h;exact⟨e,s',d,f.imp (fun⟨a,b⟩=>⟨a,by omega⟩) (fun⟨a,b⟩=>⟨a,g b⟩)⟩
section
variable {s:St} {G:Gh} {P:List Int}
theorem Inv.free_none (h:Inv s G P) {a:Int} (b:k0G s a):a0C a G=none:=by
 cases c:a0C a G with
 |none=>rfl
 |some u=>exact absurd (a1N ((h.held _).2 (by rw[c];rfl)) b) (by decide)
theorem Inv.same (h:Inv s G P) {G':Gh} (old: ∀b o,a0C b G'=some o→a0C b G=some o∨k0G s b) {b:Int} {o:Ob} (c:(a0C b G).isSome=true) (hb:a0C b G'=some o):a0C b G=some o:=by
 rcases old b o hb with a|a
 ·exact a
 ·rw[h.free_none a]at c;cases c
theorem Inv.kidSame (h:Inv s G P) {G':Gh} (old: ∀b o,a0C b G'=some o→a0C b G=some o∨k0G s b) {l:Nat} {k:Int} (c:a0W G l k) (f:k=0∨(a0C k G').isSome=true):a0W G' l k:=by
 rcases f with rfl|f
 ·cases l<;>exact .inl rfl
 ·obtain⟨o,g⟩:=Option.isSome_iff_exists.1 f;rcases k0I c with rfl|i
  ·cases l<;>exact .inl rfl
  ·have a:=h.same old i g;cases l with
   |zero=>
    rcases c with rfl| ⟨d,ats,e⟩
    ·exact .inl rfl
    ·rw[e]at a;cases a;exact .inr ⟨d,ats,g⟩
   |succ l=>
    rcases c with rfl| ⟨d,ats,e⟩
    ·exact .inl rfl
    ·rw[e]at a;cases a;exact .inr ⟨d,ats,g⟩
theorem Inv.leafSame (h:Inv s G P) {G':Gh} (old: ∀b o,a0C b G'=some o→a0C b G=some o∨k0G s b) (d:a0C 0 G'=none) {k:Int} (f:a0W G 0 k) (c:k=0∨(a0C k G').isSome=true):d0F G' k=d0F G k:=by
 rcases c with rfl|c
 ·unfold d0F;rw[d,h.zero]
 ·obtain⟨o,a⟩:=Option.isSome_iff_exists.1 c;rcases k0I f with rfl|e
  ·rw[d]at a;cases a
  ·unfold d0F;rw[a,h.same old e a]
theorem u0K (a:a0C 0 G=none): ∀(l j:Nat),c0P G l 0 j=0
 |0,j=>by
  unfold c0P b0G;rw[a];have: ∀k,e0L.getD k 0=0:=fun k=>by
   rcases Nat.lt_or_ge k 8 with h|h
   ·have:=g0Z (l:=e0L) (i:=k) h;simpa [e0L] using this
   ·rw[List.getD_eq_getElem?_getD,List.getElem?_eq_none (by simpa [e0L] using h)];rfl
  exact this _
 |l+1,j=>by
  unfold c0P b0G;rw[a];have: ∀k,e0L.getD k 0=0:=fun k=>by
   rcases Nat.lt_or_ge k 8 with h|h
   ·have:=g0Z (l:=e0L) (i:=k) h;simpa [e0L] using this
   ·rw[List.getD_eq_getElem?_getD,List.getElem?_eq_none (by simpa [e0L] using h)];rfl
  simp only[this];exact u0K a l _
theorem Inv.mapSame (h:Inv s G P) {s':St} {G':Gh} {P':List Int} (d:Inv s' G' P') (old: ∀b o,a0C b G'=some o→a0C b G=some o∨k0G s b): ∀(l:Nat) {root:Int},a0W G (l+1) root→(root=0∨(a0C root G').isSome=true)→
 ∀j,c0P G' l root j=c0P G l root j∧a0W G 0 (c0P G l root j)∧(c0P G l root j=0∨(a0C (c0P G l root j) G').isSome=true)
 |l,root,hk,.inl e,j=>by
  subst e;rw[u0K d.zero,u0K h.zero];exact⟨rfl,.inl rfl,.inl rfl⟩
 |0,root,hk,.inr hl,j=>by
  have a:=h.kidSame old hk (.inr hl);have e:b0G G' root=b0G G root:=by
   rcases a with rfl| ⟨m,n,c⟩
   ·unfold b0G;rw[d.zero,h.zero]
   ·unfold b0G;rcases k0I hk with rfl|f
    ·rw[d.zero]at c;cases c
    ·rw[c,h.same old f c]
  have g:=(d.kids a).2 ((b0G G root).getD (b0Q 0 j).1 0) (by rw[e];exact g0Z (by rw[(h.kids hk).1];exact q0A 0 j));refine⟨by unfold c0P;rw[e],h.leafKid 0 hk j,?_⟩;exact k0I g
 |l+1,root,hk,.inr hl,j=>by
  have a:=h.kidSame old hk (.inr hl);have e:b0G G' root=b0G G root:=by
   rcases a with rfl| ⟨m,n,c⟩
   ·unfold b0G;rw[d.zero,h.zero]
   ·unfold b0G;rcases k0I hk with rfl|f
    ·rw[d.zero]at c;cases c
    ·rw[c,h.same old f c]
  have g:=(d.kids a).2 ((b0G G root).getD (b0Q (l+1) j).1 0) (by rw[e];exact g0Z (by rw[(h.kids hk).1];exact q0A (l+1) j));have i:=(h.kids hk).2 ((b0G G root).getD (b0Q (l+1) j).1 0) (g0Z (by rw[(h.kids hk).1];exact q0A (l+1) j));have k:=h.mapSame d old l i (k0I g) (b0Q (l+1) j).2;unfold c0P;rw[e];exact k
theorem Inv.putN {o:Ob} (h:Inv s G (d0O o++P)) (hi:Idx s G) (c:x0X G o) (g: ∀d ats,o≠ .ext d ats) (p:d0J 3 s):
 (∃a s',e0S (l0J o) s=(.ok a,s')∧Inv s' ((a,o)::G) (a::P)∧Stp 3 1 s G s' ((a,o)::G)∧a0C a G=none∧a≠0∧s'.index=s.index)∨Fl 1 False (e0S (l0J o)) s:=by
 by_cases t:s.keep<(a0Y s:Int)
 ·have v:(l0J o).length=64:=by
   cases o with
   |part b=>exact c
   |ext d ats=>exact(g d ats rfl).elim
   |node l ks sm=>
    obtain⟨t1,B,E,C,D⟩:=c;exact(b2F (x:= {kids:=ks,sum:=sm}) (l:=l) (by omega) ⟨B,fun x w=>h.kid_range (C x w),by rw[D];exact t0M _ _⟩).2
  obtain⟨a,s',e,i,r,f,q,y,z,A⟩:=h.put c v p.d (by have:=p.l;omega) t;have n:=h.free_none f;have m:Idx s' ((a,o)::G):=fun k b=>by
   rw[q,r.bits,hi k b];constructor
   ·rintro⟨d,ats,hb,e⟩;exact⟨d,ats,by rw[d0G,if_neg (fun j=>by rw[←j,n]at hb;cases hb)];exact hb,e⟩
   ·rintro⟨d,ats,hb,e⟩;rw[d0G]at hb;split at hb
    ·cases hb;exact(g d ats rfl).elim
    ·exact⟨d,ats,hb,e⟩
  refine .inl ⟨a,s',e,i,⟨r,m,fun b u hb=> ?_,y,z,A,fun _=>by have:=r.room;omega⟩,n,i.ne0 (o:=o) (by rw[d0G,if_pos rfl]),q⟩;rw[d0G]at hb;split at hb
  ·rename_i j;exact .inr (j▸f)
  ·exact .inl hb
 ·exact .inr ⟨8,s,by unfold e0S;rw[if_pos (by omega)],.inl ⟨rfl,by omega⟩⟩
theorem Inv.xputs {d:B} (hd:d.length=256): ∀(n:Nat),n≤4→ ∀ {s:St} {G:Gh} {P:List Int},Inv s G P→Idx s G→d0J (n*3) s→
 (∃ps s' G',n0I d n s=(.ok ps,s')∧Inv s' G' (ps.map (·.1)++P)∧Stp (n*3) n s G s' G'∧ps.length=n∧s'.index=s.index∧
  (∀b o,a0C b G=some o→a0C b G'=some o)∧
  ∀i,i<n→if a0R (part d (4-n+i))=true then ps.getD i (0,0)=(0,0)else(ps.getD i (0,0)).1≠0∧a0C (ps.getD i (0,0)).1 G'=some (.part (part d (4-n+i)))∧(ps.getD i (0,0)).2=g0G (part d (4-n+i)))∨
 Fl n False (n0I d n) s
 |0,_,s,G,P,h,hi,_=> .inl ⟨[],s,G,rfl,h,(Stp.refl h hi).mono (by omega) (by omega),rfl,rfl,fun _ _ h=>h,fun i hi=>by omega⟩
 |n+1,hn,s,G,P,h,hi,hr=>by
  have k:d0J (3+n*3) s:=hr.le (by omega);unfold Go.Sb.n0I;simp only;have j:(∃p s1 f,(if a0R (part d (4- (n+1)))=true then ret (0,0)else a0B (e0S (part d (4- (n+1)))) fun a=>ret (a,g0G (part d (4- (n+1)))):M (Int×Nat)) s=(.ok p,s1)∧Inv s1 f (p.1::P)∧Stp 3 1 s G s1 f∧s1.index=s.index∧
   (∀b o,a0C b G=some o→a0C b f=some o)∧
   if a0R (part d (4- (n+1)))=true then p=(0,0)else p.1≠0∧a0C p.1 f=some (.part (part d (4- (n+1))))∧p.2=g0G (part d (4- (n+1))))∨
   Fl 1 False (if a0R (part d (4- (n+1)))=true then ret (0,0)else a0B (e0S (part d (4- (n+1)))) fun a=>ret (a,g0G (part d (4- (n+1)))):M (Int×Nat)) s:=by
   by_cases c:a0R (part d (4- (n+1)))=true
   ·simp only[if_pos c];exact .inl ⟨(0,0),s,G,rfl,h.add0,(Stp.refl h hi).mono (by omega) (by omega),rfl,fun _ _ h=>h,rfl⟩
   ·simp only[if_neg c];rcases Inv.putN (o:= .part (part d (4- (n+1)))) (P:=P) h hi (j1F hd (by omega)) (fun _ _ e=>by cases e) (k.le (by omega))with ⟨a,s1,l,r,t1,hn1,ha0,t⟩|g
    ·refine .inl ⟨(a,g0G (part d (4- (n+1)))),s1,_,?_,r,t1,t,fun b o hb=> ?_,ha0,by rw[d0G,if_pos rfl],rfl⟩
     ·have q:e0S (part d (4- (n+1))) s=(.ok a,s1):=l;rw[a0A q];rfl
     ·rw[d0G,if_neg (fun e=>by rw[←e,hn1]at hb;cases hb)];exact hb
    ·exact .inr (Fl.here (m:=e0S (part d (4- (n+1)))) g (Nat.le_refl _) id)
  rcases j with ⟨p,s1,f,l,r,t1,t,k1,c1⟩|g
  ·rcases Inv.xputs hd n (by omega) r t1.idx (k.go t1.rel)with ⟨ps,s2,G2,e2,i2,t2,l2,x2,k2,c2⟩|g
   ·refine .inl ⟨p::ps,s2,G2,by rw[a0A l,a0A e2];rfl,i2.perm fun x u=> ?_,(t1.trans t2).mono (by omega) (by omega),by simp[l2],x2.trans t,fun b o hb=>k2 b o (k1 b o hb),fun i hi=> ?_⟩
    ·simp only[List.map_cons,List.cons_append,List.count_append,List.count_cons];omega
    ·cases i with
     |zero=>
      simp only[Nat.add_zero,List.getD_cons_zero];split at c1
      ·rename_i c;rw[if_pos c];exact c1
      ·rename_i c;rw[if_neg c];exact⟨c1.1,k2 _ _ c1.2.1,c1.2.2⟩
     |succ i=>
      have:=c2 i (by omega);rw[show 4- (n+1)+(i+1)=4-n+i by omega];simpa only[List.getD_cons_succ] using this
   ·exact .inr (Fl.there l t1.rel t1.keep (g.here (Nat.le_refl _) id) (by omega) id)
  ·exact .inr (g.here (by omega) id)
def g1R (G:Gh) (bits:Nat) (data:B):Prop:= ∃a d ats,a0C a G=some (.ext d ats)∧d≠data∧key bits (Sha.sum d)=key bits (Sha.sum data)
theorem Inv.xput (h:Inv s G P) (hi:Idx s G) {data:B} (hd:data.length=256) (Q:d0J 16 s) (hP:P.length≤1000000):
 (∃a s' G',j0E data s=(.ok a,s')∧Inv s' G' (a::P)∧Stp 16 5 s G s' G'∧a0W G' 0 a∧d0F G' a=data∧(a0R data=false→ ¬g1R G s.bits data))∨Fl 5 (a0R data=false∧g1R G s.bits data) (j0E data) s:=by
 unfold Go.Sb.j0E;rw[if_neg (by omega)];by_cases n:a0R data=true
 ·rw[if_pos n];refine .inl ⟨0,s,G,rfl,h.add0,(Stp.refl h hi).mono (by omega) (by omega),.inl rfl,?_,fun e=>by rw[n]at e;cases e⟩;unfold d0F;rw[h.zero,b1X n hd]
 ·rw[if_neg n];have L:a0R data=false:=by simpa using n
  cases t:a0C (key s.bits (Sha.sum data)) s.index with
  |some a=>
   obtain⟨d,ats,A,q⟩:=(hi _ _).1 t;have J: ∀b j f,a0C b G=some (.ext j f)→key s.bits (Sha.sum j)=key s.bits (Sha.sum data)→b=a:=fun b j f hb e=>by
    have:=(hi (key s.bits (Sha.sum data)) b).2 ⟨j,f,hb,e.symm⟩;rw[t]at this;cases this;rfl
   by_cases z:d=data
   ·subst z;obtain⟨s1,O,N,r1,Y,R,Z,q4⟩:=h.more A (fun _ e=>by cases e) Q.d (by have:=Q.l;omega) hP;refine .inl ⟨a,s1,G,?_,N,⟨r1.mono (by omega) (by omega),fun k b=>by rw[Y,r1.bits];exact hi k b,fun _ _ h=> .inl h,R,Z,q4,g1Q r1 R⟩,.inr ⟨d,ats,A⟩,by unfold d0F;rw[A],?_⟩
    ·simp only[t];rw[a0A (h.xget A)];show(if d≠d then n0L 9 else a0B (k0S a) fun _=>ret a:M Int) s=_;rw[if_neg (by simp),a0A O];rfl
    ·rintro _ ⟨b,j,f,hb,X,e⟩;have:=J b j f hb e;subst this;rw[A]at hb;cases hb;exact X rfl
   ·refine .inr ⟨9,s,?_,.inr ⟨rfl,L,a,d,ats,A,z,q.symm⟩⟩;simp only[t];rw[a0A (h.xget A)];show(if d≠data then n0L 9 else a0B (k0S a) fun _=>ret a:M Int) s=_;rw[if_pos z];rfl
  |none=>
   have W: ¬g1R G s.bits data:=by
    rintro⟨b,j,f,hb,_,e⟩;have:=(hi (key s.bits (Sha.sum data)) b).2 ⟨j,f,hb,e.symm⟩;rw[t]at this;cases this
   rcases h.xputs hd 4 (Nat.le_refl _) hi (Q.le (by omega))with ⟨ps,s1,G1,O,N,t1,l1,x1,k1,c1⟩|V
   ·have w: ∀i,(ps.map (·.1)).getD i 0=(ps.getD i (0,0)).1:=fun i=>by
     rw[List.getD_eq_getElem?_getD,List.getD_eq_getElem?_getD,List.getElem?_map];cases ps[i]? <;>rfl
    have I:x0X G1 (.ext data (ps.map (·.1))):=by
     refine⟨hd,L,by simp[l1],fun k q=> ?_⟩;have:=c1 k q;rw[show 4-4+k=k by omega]at this;unfold v0S;split at this
     ·rename_i n;rw[if_pos n,w,this]
     ·rename_i n;rw[if_neg n,w];exact⟨this.1,this.2.1⟩
    have D:ps.map (·.2)=(List.range 4).map fun k=>if a0R (part data k)then 0 else g0G (part data k):=by
     apply List.ext_getElem?;intro i;by_cases F:i<4
     ·have:=c1 i F;rw[show 4-4+i=i by omega]at this;have hg:ps[i]? =some (ps.getD i (0,0)):=by rw[List.getD_eq_getElem?_getD,List.getElem?_eq_getElem (by omega)];rfl
      rw[List.getElem?_map,hg,List.getElem?_map,List.getElem?_range F];split at this
      ·rename_i n;rw[this];simp[n]
      ·rename_i n;simp only[Option.map_some,this.2.2,n];rfl
     ·rw[List.getElem?_eq_none (by simp;omega),List.getElem?_eq_none (by simp;omega)]
    have r:h0Z {at_:=ps.map (·.1),sums:=ps.map (·.2),sum:=Sha.sum data} =l0J (.ext data (ps.map (·.1))):=by
     show _=h0Z (m0K _ _);unfold m0K;rw[D]
    have C:d0J 4 s1:=(Q.le (by omega):d0J (4*3+4) s).go t1.rel;by_cases V:s1.keep<(a0Y s1:Int)
    ·have H:(l0J (.ext data (ps.map (·.1)))).length=64:=by
      refine(b2E ⟨by simp[m0K,l1],fun x hx=> ?_,by simp[m0K],fun c hc=> ?_,p0Z _⟩).2
      ·rcases z0B I x hx with rfl| ⟨b,hb⟩
       ·omega
       ·have:=N.range hb;omega
      ·obtain⟨k,_,rfl⟩:=List.mem_map.1 hc;split
       ·decide
       ·exact Nat.lt_of_lt_of_eq (g1P _) (by decide)
     obtain⟨a,g,y,p,S,E,Y,R,Z,q4⟩:=Inv.put (o:= .ext data (ps.map (·.1))) (P:=P) N I H C.d (by have:=C.l;omega) V;have K:d0J 1 g:=(C.le (by omega):d0J (3+1) s1).go S;have T:f0F (key g.bits (Sha.sum data)) a g=(.ok (),{g with log:=bk g.depth g.log (.index (key g.bits (Sha.sum data)) (a0C (key g.bits (Sha.sum data)) g.index)),index:=b0O (key g.bits (Sha.sum data)) a g.index}):=by
      have:=K.l;simp[f0F,a0B,back,show ¬1000000000≤g.log.length by omega]
     have r3:=h1O (key g.bits (Sha.sum data)) a g K.d p.u (by rw[T];simp);rw[T]at r3;have hn:=N.free_none E;have U:g.bits=s.bits:=S.bits.trans t1.rel.bits;have v: ∀k b,a0C k s1.index=some b↔ ∃d ats,a0C b G1=some (.ext d ats)∧k=key s.bits (Sha.sum d):=fun k b=>by
      have:=t1.idx k b;rw[t1.rel.bits]at this;exact this
     refine .inl ⟨a,_,(a,.ext data (ps.map (·.1)))::G1,?_,⟨r3.ok,p.nod,p.lo,p.hi,p.refs,p.live,p.zero,p.held,p.disk,p.typ,p.cnt,p.lone⟩,⟨((t1.rel.trans S).trans r3).mono (by omega) (by omega),fun k b=> ?_,fun b o hb=> ?_,R.trans t1.keep,Z.trans t1.vols,q4.trans t1.next,fun _=>(by have:=S.room;show g.keep≤(a0Y g:Int);omega)⟩,.inr ⟨data,_,by rw[d0G,if_pos rfl]⟩,by unfold d0F;rw[d0G,if_pos rfl],fun _=>W⟩
     ·simp only[t];rw[a0A O];simp only[r];rw[a0A y];show a0B (fun s=>f0F (key s.bits (Sha.sum data)) a s) _ g=_;rw[a0A (m:=fun s=>f0F (key s.bits (Sha.sum data)) a s) T];rfl
     ·show a0C k (b0O (key g.bits (Sha.sum data)) a g.index)=some b↔ ∃j f,a0C b ((a,Ob.ext data (ps.map (·.1)))::G1)=some (Ob.ext j f)∧k=key g.bits (Sha.sum j);rw[f0N,U,Y];constructor
      ·intro q;split at q
       ·rename_i e;cases q;exact⟨data,_,by rw[d0G,if_pos rfl],e.symm⟩
       ·obtain⟨j,f,hb,e⟩:=(v k b).1 q;exact⟨j,f,by rw[d0G,if_neg (fun y=>by rw[←y,hn]at hb;cases hb)];exact hb,e⟩
      ·rintro⟨j,f,hb,e⟩;rw[d0G]at hb;split at hb
       ·rename_i y;cases hb;subst y;rw[if_pos e.symm]
       ·have q:=(v k b).2 ⟨j,f,hb,e⟩;rw[if_neg]
        ·exact q
        ·intro y;rw[x1,←y,t]at q;cases q
     ·rw[d0G]at hb;split at hb
      ·rename_i e;subst e;exact .inr (t1.rel.free _ E)
      ·exact t1.old b o hb
    ·refine .inr ⟨8,s1,?_,.inl ⟨rfl,?_⟩⟩
     ·simp only[t];rw[a0A O];refine a0F ?_;unfold e0S;rw[if_pos (by omega)]
     ·have:=t1.rel.room;have:=t1.keep;omega
   ·refine .inr ?_;obtain⟨e,s',h1,h2⟩:=V;refine⟨e,s',by simp only[t];exact a0F h1,h2.imp (fun⟨a,b⟩=>⟨a,by omega⟩) (fun⟨_,b⟩=>b.elim)⟩
end
end
section
theorem a1R: ∀ {l:List Int} {k:Nat} (_:k<l.length) (r x:Int),(l.set k r).count x=(if r=x then 1 else 0)+(l.eraseIdx k).count x
 | [],k,h,_,_=>by simp at h
 |y::l,0,_,r,x=>by simp only[List.set_cons_zero,List.eraseIdx_cons_zero,List.count_cons,beq_iff_eq];omega
 |y::l,k+1,h,r,x=>by
  have:=a1R (l:=l) (k:=k) (by simpa using h) r x;simp only[List.set_cons_succ,List.eraseIdx_cons_succ,List.count_cons];omega
theorem b2J {l:List Int} {k:Nat} (h:k<l.length) (x:Int):l.count x=(if l.getD k 0=x then 1 else 0)+(l.eraseIdx k).count x:=by
 have a:=a1R h (l.getD k 0) x;have e:l.set k (l.getD k 0)=l:=by
  rw[List.getD_eq_getElem?_getD,List.getElem?_eq_getElem h];exact List.set_getElem_self h
 rw[e]at a;exact a
theorem s0I (r x:Int) (l:List Int):(r::l).count x=(if r=x then 1 else 0)+l.count x:=by
 rw[List.count_cons];by_cases e:r=x<;>simp[e]<;>omega
theorem e1L {l:List Int} {k:Nat} {x:Int} (h:x∈l.eraseIdx k):x∈l:=List.mem_of_mem_eraseIdx h
theorem b2K {l:List Int} {k:Nat} (b:k<l.length) {r x:Int} (h:x∈l.set k r):x=r∨x∈l.eraseIdx k:=by
 have a:=List.count_pos_iff.2 h;rw[a1R b]at a;by_cases e:r=x
 ·exact .inl e.symm
 ·rw[if_neg e]at a;exact .inr (List.count_pos_iff.1 (by omega))
section
variable {s:St} {G:Gh} {P:List Int}
theorem x2T {l:Nat} {a:Int} {o:Ob} (f:a0W G l a) (c:a≠0) (g:a0C a G=some o): ∀b,o≠ .part b:=fun b e=>by
 subst e;cases l with
 |zero=>obtain⟨d,ats,e⟩:=f.resolve_left c;rw[g]at e;cases e
 |succ l=>obtain⟨d,ats,e⟩:=f.resolve_left c;rw[g]at e;cases e
theorem Inv.mores (l:Nat): ∀(a:List Int) {s:St} {P:List Int},Inv s G P→Idx s G→(∀k∈a,a0W G l k)→d0J a.length s→P.length+a.length≤1000000→
 ∃s',d0V (h0E · l) a s=(.ok (),s')∧Inv s' G (a++P)∧Stp a.length 0 s G s' G
 | [],s,P,h,hi,_,_,_=>⟨s,rfl,h,Stp.refl h hi⟩
 |x::a,s,P,h,hi,hk,hr,hP=>by
  simp only[List.length_cons]at hr hP;have f:d0J (1+a.length) s:=hr.le (by omega);have one: ∃s1,h0E x l s=(.ok (),s1)∧Inv s1 G (x::P)∧Stp 1 0 s G s1 G:=by
   by_cases c:x=0
   ·subst c;exact⟨s,by unfold h0E;rw[if_pos rfl];rfl,h.add0,(Stp.refl h hi).mono (by omega) (by omega)⟩
   ·have q:(a0C x G).isSome=true:=(k0I (hk x (List.mem_cons_self ..))).resolve_left c;obtain⟨o,j⟩:=Option.isSome_iff_exists.1 q;obtain⟨s1,e,g,i,t,n,u,v⟩:=h.more j (x2T (hk x (List.mem_cons_self ..)) c j) hr.d (by have:=hr.l;omega) (by omega);refine⟨s1,?_,g,i,fun k b=>by rw[t,i.bits];exact hi k b,fun _ _ h=> .inl h,n,u,v,g1Q i n⟩;unfold h0E;rw[if_neg c];split
    ·unfold t0K;rw[if_neg c];exact e
    ·exact e
  obtain⟨s1,e,g,t1⟩:=one;obtain⟨w,p,r,z⟩:=Inv.mores l a g t1.idx (fun y m=>hk y (List.mem_cons_of_mem _ m)) (f.go t1.rel) (by simp;omega);refine⟨w,by unfold d0V;rw[a0A e];exact p,r.perm fun y m=> ?_,(t1.trans z).mono (by simp;omega) (by omega)⟩;simp only[List.count_append,List.cons_append,List.count_cons];omega
theorem e2J (k:Nat):e0L.getD k 0=0:=by
 rcases Nat.lt_or_ge k 8 with h|h
 ·have:=g0Z (l:=e0L) (i:=k) h;simpa [e0L] using this
 ·rw[List.getD_eq_getElem?_getD,List.getElem?_eq_none (by simpa [e0L] using h)];rfl
theorem t1S {l:List Int} {k j:Nat} (a:k<l.length) (r:Int):(l.set k r).getD j 0=if j=k then r else l.getD j 0:=by
 rw[List.getD_eq_getElem?_getD,List.getD_eq_getElem?_getD];by_cases e:j=k
 ·subst e;rw[List.getElem?_set_self a];simp
 ·rw[List.getElem?_set_ne (Ne.symm e),if_neg e]
theorem Inv.renew (l:Nat) {c:List Int} (h:Inv s G (c++P)) (hi:Idx s G) (u:l<3) (p:c.length=8) (g: ∀k∈c,a0W G l k) (y:d0J 3 s):
 (∃r s' G',(if c=e0L then ret 0 else a0B (Go.Sb.h0F l c) fun ss=>e0S (j0L l {kids:=c,sum:=e0H l ss}):M Int) s=(.ok r,s')∧Inv s' G' (r::P)∧Stp 3 1 s G s' G'∧a0W G' (l+1) r∧b0G G' r=c∧(∀b o,a0C b G=some o→a0C b G'=some o))∨
 Fl 1 False (if c=e0L then ret 0 else a0B (Go.Sb.h0F l c) fun ss=>e0S (j0L l {kids:=c,sum:=e0H l ss}):M Int) s:=by
 by_cases d:c=e0L
 ·simp only[if_pos d];refine .inl ⟨0,s,G,rfl,h.perm fun x i=> ?_,(Stp.refl h hi).mono (by omega) (by omega),.inl rfl,by unfold b0G;rw[h.zero,d],fun _ _ h=>h⟩;rw[d,List.count_append,s0I,if_neg (Ne.symm i)];have:e0L.count x=0:=List.count_eq_zero.2 fun v=>i (by simpa [e0L] using v);omega
 ·simp only[if_neg d];have e0:=h.rsums l c g;have f:x0X G (.node l c (e0H l (c.map (d0R G)))):=⟨u,p,d,g,rfl⟩;rcases Inv.putN (o:= .node l c (e0H l (c.map (d0R G)))) (P:=P) h hi f (fun _ _ e=>by cases e) y with ⟨a,s',j,z,t1,w,q,_⟩|t
  ·refine .inl ⟨a,s',_,by rw[a0A e0];exact j,z,t1,.inr ⟨_,_,by rw[d0G,if_pos rfl]⟩,by unfold b0G;rw[d0G,if_pos rfl],fun b o hb=> ?_⟩;rw[d0G,if_neg (fun e=>by rw[←e,w]at hb;cases hb)];exact hb
  ·obtain⟨e,s',m,n⟩:=t;exact .inr ⟨e,s',by rw[a0A e0];exact m,n⟩
theorem l1K {G':Gh} (d: ∀b o,a0C b G=some o→a0C b G'=some o) {k:Int} {l:Nat} (a:a0W G l k):k=0∨(a0C k G').isSome=true:=by
 rcases k0I a with h|h
 ·exact .inl h
 ·obtain⟨o,c⟩:=Option.isSome_iff_exists.1 h;exact .inr (by rw[d _ _ c];rfl)
theorem t0N {l at_:Nat} (h:at_<8^(l+1)):at_=(b0Q l at_).1*8^l+(b0Q l at_).2∧(b0Q l at_).2<8^l:=by
 have a:0<8^l:=Nat.pos_of_ne_zero (by simp);have b:at_/8^l<8:=by rw[Nat.div_lt_iff_lt_mul a,Nat.mul_comm];rw[Nat.pow_succ]at h;exact h
 unfold b0Q;simp only;rw[Nat.mod_eq_of_lt b,Nat.mul_comm];exact⟨(Nat.div_add_mod _ _).symm,Nat.mod_lt _ a⟩
theorem b2L {l a b:Nat} (c:a<8^(l+1)) (hb:b<8^(l+1)):(b0Q l a).1=(b0Q l b).1∧(b0Q l a).2=(b0Q l b).2↔a=b:=by
 constructor
 ·rintro⟨h1,h2⟩;rw[(t0N c).1,(t0N hb).1,h1,h2]
 ·rintro rfl;exact⟨rfl,rfl⟩
theorem Inv.rset: ∀(l:Nat) {s:St} {G:Gh} {P:List Int} {root:Int} {at_:Nat} {to_:Int},Inv s G (root::to_::P)→Idx s G→a0W G (l+1) root→a0W G 0 to_→l<3→at_<8^(l+1)→d0J (g0H l) s→P.length+100+100*l≤900000→
 (∃r s' G',Go.Sb.i0W l root at_ to_ s=(.ok r,s')∧Inv s' G' (r::P)∧Stp (g0H l) (l+1) s G s' G'∧a0W G' (l+1) r∧ ∀j,j<8^(l+1)→c0P G' l r j=if j=at_ then to_ else c0P G l root j)∨
 Fl (l+1) False (Go.Sb.i0W l root at_ to_) s:=by
 intro l
 induction l with
 |zero=>
  intro s G P root at_ to_ h hi d R hl D hr hP;have c:=h.kids d;have f:(b0Q 0 at_).1<(b0G G root).length:=by rw[c.1];exact q0A 0 at_
  have w:d0J (8+(j0T 1+(21+3))) s:=hr.le (by decide);have e0:=h.loadK d;obtain⟨s1,t,i1,t1⟩:=Inv.mores 0 (b0G G root) h hi c.2 (by rw[c.1];exact w.le (by omega)) (by simp;omega);rw[c.1]at t1;have u:=w.go t1.rel;have S:Inv s1 G (root::(b0G G root++to_::P)):=i1.perm fun x hx=>by simp only[List.count_append,List.count_cons];omega
  obtain⟨V,J,F,T,I,W⟩:=Inv.rless 1 S t1.idx d (u.le (by omega)) (by simp;omega);have v:d0J (21+3) V:=u.go I.rel;have y:Inv V J ((b0G G root).getD (b0Q 0 at_).1 0::((b0G G root).eraseIdx (b0Q 0 at_).1++to_::P)):=T.perm fun x hx=>by
   rw[s0I,List.count_append,List.count_append,b2J f x];omega
  have hkk:a0W J 0 ((b0G G root).getD (b0Q 0 at_).1 0):=x0H W (c.2 _ (g0Z f)) (by
   by_cases p:(b0G G root).getD (b0Q 0 at_).1 0=0
   ·exact .inl p
   ·exact .inr (y.pend (List.mem_cons_self ..) p))
  obtain⟨H,K,e3,i3,C,b3⟩:=y.xless I.idx hkk (v.le (by omega)) (by simp;rw[List.length_eraseIdx];split<;>omega);have O:d0J 3 H:=v.go C.rel;have b13:Sub K G:=b3.trans W;have E:Inv H K ((b0G G root).set (b0Q 0 at_).1 to_++P):=i3.perm fun x hx=>by
   rw[List.count_append,List.count_append,s0I,a1R f];omega
  have N: ∀k∈(b0G G root).set (b0Q 0 at_).1 to_,a0W K 0 k:=fun k q=>by
   have hp:=E.pend (x:=k) (List.mem_append_left _ q);refine x0H b13 ?_ (if p:k=0 then .inl p else .inr (hp p));rcases b2K f q with rfl|B
   ·exact R
   ·exact c.2 _ (e1L B)
  have n:Go.Sb.i0W 0 root at_ to_ s=(if(b0G G root).set (b0Q 0 at_).1 to_=e0L then ret 0 else a0B (Go.Sb.h0F 0 ((b0G G root).set (b0Q 0 at_).1 to_)) fun ss=>e0S (j0L 0 {kids:=(b0G G root).set (b0Q 0 at_).1 to_,sum:=e0H 0 ss}):M Int) H:=by
   unfold Go.Sb.i0W;rw[a0A e0];simp only;rw[a0A t,a0A (show v0D root 0 s1=_ from F),a0A (show(a0B (Go.Sb.g0O ((b0G G root).getD (b0Q 0 at_).1 0)) fun _=>ret to_) V=(.ok to_,H) by rw[a0A e3];rfl)]
  have g:=(t1.trans I).trans C;rcases Inv.renew 0 E C.idx (by omega) (by simp[c.1]) N O with ⟨r,s4,Y,e4,i4,X,k4,q4,A⟩|Z
  ·refine .inl ⟨r,s4,Y,by rw[n,e4],i4,(g.trans X).mono (by simp only[g0H];omega) (by omega),k4,fun j hj=> ?_⟩;unfold c0P;rw[q4,t1S f];have:=b2L (l:=0) hj D;have L:(b0Q 0 j).2=(b0Q 0 at_).2:=by simp[b0Q,Nat.mod_one]
   by_cases e:j=at_
   ·rw[if_pos e,if_pos (by rw[e])]
   ·rw[if_neg e,if_neg (fun F=>e (this.1 ⟨F,L⟩))]
  ·obtain⟨e,s',B,L⟩:=Z;refine .inr ⟨e,s',by rw[n,B],L.imp (fun⟨a,b⟩=>⟨a,?_⟩) id⟩;have:=g.rel.room;have:=g.keep;omega
 |succ l ih=>
  intro s G P root at_ to_ h hi d R hl D hr hP;have c:=h.kids d;have f:(b0Q (l+1) at_).1<(b0G G root).length:=by rw[c.1];exact q0A (l+1) at_
  have w:d0J (8+(j0T (l+2)+(g0H l+3))) s:=hr.le (by simp only[g0H];omega);have e0:=h.loadK d;obtain⟨s1,t,i1,t1⟩:=Inv.mores (l+1) (b0G G root) h hi c.2 (by rw[c.1];exact w.le (by omega)) (by simp;omega);rw[c.1]at t1;have u:=w.go t1.rel;have S:Inv s1 G (root::(b0G G root++to_::P)):=i1.perm fun x hx=>by simp only[List.count_append,List.count_cons];omega
  obtain⟨V,J,F,T,I,W⟩:=Inv.rless (l+2) S t1.idx d (u.le (by omega)) (by simp;omega);have v:d0J (g0H l+3) V:=u.go I.rel;have y:Inv V J ((b0G G root).getD (b0Q (l+1) at_).1 0::to_::((b0G G root).eraseIdx (b0Q (l+1) at_).1++P)):=T.perm fun x hx=>by
   rw[s0I,s0I,List.count_append,List.count_append,s0I,b2J f x];omega
  have i: ∀k∈b0G G root,a0W J (l+1) k:=fun k q=>x0H W (c.2 _ q) (by
   by_cases p:k=0
   ·exact .inl p
   ·exact .inr (T.pend (List.mem_append_left _ q) p))
  have hto2:a0W J 0 to_:=x0H W R (by
   by_cases p:to_=0
   ·exact .inl p
   ·exact .inr (y.pend (List.mem_cons_of_mem _ (List.mem_cons_self ..)) p))
  have Q:=(t0N D).2;rcases ih (at_:=(b0Q (l+1) at_).2) y I.idx (i _ (g0Z f)) hto2 (by omega) Q (v.le (by omega)) (by simp;rw[List.length_eraseIdx];split<;>omega)with ⟨r,H,K,e3,i3,C,k3,c3⟩|Z
  ·have O:d0J 3 H:=v.go C.rel;have E:Inv H K ((b0G G root).set (b0Q (l+1) at_).1 r++P):=i3.perm fun x hx=>by
    rw[s0I,List.count_append,List.count_append,a1R f];omega
   have z: ∀k∈(b0G G root).eraseIdx (b0Q (l+1) at_).1,k=0∨(a0C k K).isSome=true:=fun k q=>by
    by_cases p:k=0
    ·exact .inl p
    ·exact .inr (i3.pend (List.mem_cons_of_mem _ (List.mem_append_left _ q)) p)
   have N: ∀k∈(b0G G root).set (b0Q (l+1) at_).1 r,a0W K (l+1) k:=fun k q=>by
    rcases b2K f q with rfl|B
    ·exact k3
    ·exact T.kidSame C.old (i _ (e1L B)) (z _ B)
   have n:Go.Sb.i0W (l+1) root at_ to_ s=(if(b0G G root).set (b0Q (l+1) at_).1 r=e0L then ret 0 else a0B (Go.Sb.h0F (l+1) ((b0G G root).set (b0Q (l+1) at_).1 r)) fun ss=>e0S (j0L (l+1) {kids:=(b0G G root).set (b0Q (l+1) at_).1 r,sum:=e0H (l+1) ss}):M Int) H:=by
    conv=>lhs;unfold Go.Sb.i0W
    rw[a0A e0];simp only;rw[a0A t,a0A (show v0D root (l+1) s1=_ from F),a0A e3]
   have g:=(t1.trans I).trans C;rcases Inv.renew (l+1) E C.idx hl (by simp[c.1]) N O with ⟨r',s4,Y,e4,i4,X,k4,q4,A⟩|Z
   ·refine .inl ⟨r',s4,Y,by rw[n,e4],i4,(g.trans X).mono (by simp only[g0H];omega) (by omega),k4,fun j hj=> ?_⟩;have hjs:=t0N hj;have old24: ∀b o,a0C b Y=some o→a0C b J=some o∨k0G V b:=(C.trans X).old;have U: ∀b o,a0C b Y=some o→a0C b G=some o∨k0G s b:=(g.trans X).old
    conv=>lhs;unfold c0P
    rw[q4,t1S f];have hse:=b2L (l:=l+1) hj D;by_cases t:(b0Q (l+1) j).1=(b0Q (l+1) at_).1
    ·rw[if_pos t];have m3:=i3.mapSame i4 X.old l k3 (l1K A k3) (b0Q (l+1) j).2;rw[m3.1,c3 _ hjs.2];by_cases e:j=at_
     ·rw[if_pos e,if_pos (by rw[e])]
     ·rw[if_neg e,if_neg (fun F=>e (hse.1 ⟨t,F⟩))];have m2:=h.mapSame T (fun b o hb=> .inl (W b o hb)) l (c.2 _ (g0Z f)) (k0I (i _ (g0Z f))) (b0Q (l+1) j).2;rw[m2.1]
      conv=>rhs;unfold c0P
      rw[t]
    ·rw[if_neg t,if_neg (fun e=>t (by rw[e]))];have hsj:(b0Q (l+1) j).1<(b0G G root).length:=by rw[c.1];exact q0A (l+1) j
     have q:(b0G G root).getD (b0Q (l+1) j).1 0∈(b0G G root).eraseIdx (b0Q (l+1) at_).1:=by
      rw[List.mem_eraseIdx_iff_getElem?];exact⟨(b0Q (l+1) j).1,t,by rw[List.getD_eq_getElem?_getD,List.getElem?_eq_getElem hsj];rfl⟩
     have hk3:=T.kidSame C.old (i _ (e1L q)) (z _ q);have m:=h.mapSame i4 U l (c.2 _ (g0Z hsj)) (l1K A hk3) (b0Q (l+1) j).2;rw[m.1]
     conv=>rhs;unfold c0P
   ·obtain⟨e,s',B,L⟩:=Z;refine .inr ⟨e,s',by rw[n,B],L.imp (fun⟨a,b⟩=>⟨a,?_⟩) id⟩;have:=g.rel.room;have:=g.keep;omega
  ·obtain⟨e,s',B,L⟩:=Z;have t12:=t1.trans I;refine .inr ⟨e,s',?_,L.imp (fun⟨a,b⟩=>⟨a,?_⟩) id⟩
   ·conv=>lhs;unfold Go.Sb.i0W
    rw[a0A e0];simp only;rw[a0A t,a0A (show v0D root (l+1) s1=_ from F),a0F B]
   ·have:=t12.rel.room;have:=t12.keep;omega
end
end
section
def a0Z (G:Gh) (root:Int) (j:Nat):B:=if j<512 then d0F G (c0P G 2 root j)else a0L 256
section
variable {s:St} {G:Gh} {P:List Int}
theorem Inv.leaf_len (h:Inv s G P) {a:Int} (_:a0W G 0 a):(d0F G a).length=256:=by
 unfold d0F;split
 ·rename_i d ats b;exact(h.typ a _ b).1
 ·exact j0M 256
theorem Inv.map_len (h:Inv s G P) {root:Int} (a:a0W G 3 root) (j:Nat):(a0Z G root j).length=256:=by
 unfold a0Z;split
 ·exact h.leaf_len (h.leafKid 2 a j)
 ·exact j0M 256
theorem Inv.mapKeep (h:Inv s G P) {s':St} {G':Gh} {P':List Int} (a:Inv s' G' P') (old: ∀b o,a0C b G'=some o→a0C b G=some o∨k0G s b) {root:Int} (c:a0W G 3 root) (d:root=0∨(a0C root G').isSome=true):a0Z G' root=a0Z G root:=by
 funext j;unfold a0Z;split
 ·have m:=h.mapSame a old 2 c d j;rw[m.1];exact h.leafSame old a.zero m.2.1 m.2.2
 ·rfl
theorem Inv.mset {root to_:Int} {at_:Nat} (h:Inv s G (root::to_::P)) (hi:Idx s G) (a:a0W G 3 root) (d:a0W G 0 to_) (i:at_<512) (n:d0J (g0H 2) s) (t:P.length≤800000):
 (∃r s' G',m0G root at_ to_ s=(.ok r,s')∧Inv s' G' (r::P)∧Stp (g0H 2) 3 s G s' G'∧a0W G' 3 r∧ ∀j,j<512→c0P G' 2 r j=if j=at_ then to_ else c0P G 2 root j)∨Fl 3 False (m0G root at_ to_) s:=by
 unfold Go.Sb.m0G;rw[show(a0B (Go.Sb.l0E 2 root at_) fun x=>if x=to_ then a0B (Go.Sb.g0O to_) fun _=>ret root else Go.Sb.i0W 2 root at_ to_:M Int) s=(if c0P G 2 root at_=to_ then a0B (Go.Sb.g0O to_) fun _=>ret root else Go.Sb.i0W 2 root at_ to_:M Int) s from a0A (h.rget 2 a at_)];have g:Fl 3 False (if c0P G 2 root at_=to_ then a0B (Go.Sb.g0O to_) fun _=>ret root else Go.Sb.i0W 2 root at_ to_:M Int) s→Fl 3 False (a0B (Go.Sb.l0E 2 root at_) fun x=>if x=to_ then a0B (Go.Sb.g0O to_) fun _=>ret root else Go.Sb.i0W 2 root at_ to_:M Int) s:=by
  rintro⟨e,s',h1,h2⟩;exact⟨e,s',by rw[a0A (h.rget 2 a at_)];exact h1,h2⟩
 by_cases f:c0P G 2 root at_=to_
 ·rw[if_pos f];have q:Inv s G (to_::root::P):=h.perm fun x v=>by simp only[List.count_cons];omega
  obtain⟨s1,l,p,k,t1,m⟩:=q.xless hi d (n.le (by decide)) (by simp;omega);have c:a0W l 3 root:=x0H m a (if h0:root=0 then .inl h0 else .inr (k.pend (List.mem_cons_self ..) h0));refine .inl ⟨root,s1,l,by rw[a0A p];rfl,k,t1.mono (by decide) (by omega),c,fun j u=> ?_⟩;rw[(h.mapSame k (fun b o hb=> .inl (m b o hb)) 2 a (k0I c) j).1];split
  ·rename_i e;rw[e,f]
  ·rfl
 ·rw[if_neg f];rcases Inv.rset 2 h hi a d (by omega) i n (by omega)with h1|h1
  ·exact .inl h1
  ·exact .inr (g (by rw[if_neg f];exact h1))
def upd (m:Nat→B) (i:Nat) (d:B):Nat→B:=fun j=>if j=i then d else m j
theorem Inv.cset {x:Ent} {i:Nat} {data:B} (h:Inv s G (x.root::P)) (hi:Idx s G) (b:a0W G 3 x.root) (k:i<512) (hd:data.length=256) (l:d0J (16+g0H 2) s) (o:P.length≤700000):
 (∃r s' G',r0Y x i data s=(.ok {x with root:=r},s')∧Inv s' G' (r::P)∧Stp (16+g0H 2) 8 s G s' G'∧a0W G' 3 r∧a0Z G' r=upd (a0Z G x.root) i data∧(a0R data=false→ ¬g1R G s.bits data))∨
 Fl 8 (a0R data=false∧g1R G s.bits data) (r0Y x i data) s:=by
 unfold Go.Sb.r0Y;rcases h.xput hi hd (l.le (by omega)) (by simp;omega)with ⟨a,s1,G1,e1,i1,t1,k1,l1,c1⟩|hf
 ·have g:Inv s1 G1 (x.root::a::P):=i1.perm fun y p=>by simp only[List.count_cons];omega
  have f:a0W G1 3 x.root:=h.kidSame t1.old b (if h0:x.root=0 then .inl h0 else .inr (g.pend (List.mem_cons_self ..) h0));rcases g.mset t1.idx f k1 k (l.go t1.rel) (by omega)with ⟨r,s2,G2,e2,i2,t2,k2,c2⟩|hf
  ·refine .inl ⟨r,s2,G2,by rw[a0A e1,a0A e2];rfl,i2,t1.trans t2,k2,?_,c1⟩;funext j;by_cases d:j<512
   case neg=>unfold upd a0Z;rw[if_neg d,if_neg d,if_neg (by omega)]
   have n:=c2 j d;have c:=k0I (i2.leafKid 2 k2 j);unfold upd a0Z;rw[if_pos d,if_pos d];rw[n]at c ⊢;by_cases e:j=i
   ·rw[if_pos e]at c ⊢;rw[if_pos e,i1.leafSame t2.old i2.zero k1 c,l1]
   ·rw[if_neg e]at c ⊢;rw[if_neg e];have m:=h.mapSame i1 t1.old 2 b (k0I f) j;rw[m.1]at c ⊢;exact h.leafSame (t1.trans t2).old i2.zero m.2.1 c
  ·exact .inr (Fl.there e1 t1.rel t1.keep (hf.here (Nat.le_refl _) False.elim) (by omega) id)
 ·exact .inr (hf.here (by omega) id)
theorem h0R {a:Int} : ∀ {G:Gh},n0C G a≠0→ ∃p∈G,a∈d0O p.2
 | [],h=>by simp[n0C]at h
 | (b,o)::G,h=>by
  rw[o0L]at h;by_cases e:(d0O o).count a=0
  ·obtain⟨p,d,c⟩:=h0R (a:=a) (G:=G) (by omega);exact⟨p,List.mem_cons_of_mem _ d,c⟩
  ·exact⟨(b,o),List.mem_cons_self ..,List.count_pos_iff.1 (Nat.pos_of_ne_zero e)⟩
theorem Inv.wants (h:Inv s G P) {a:Int} {o:Ob} (d:a0C a G=some o):a∈P∨ ∃b u,a0C b G=some u∧a∈d0O u:=by
 have:=h.need_pos d;unfold f0C at this;by_cases e:P.count a=0
 ·obtain⟨⟨b,u⟩,f,c⟩:=h0R (a:=a) (G:=G) (by omega);exact .inr ⟨b,u,(e0D h.nod).2 f,c⟩
 ·exact .inl (List.count_pos_iff.1 (by omega))
theorem Inv.above (h:Inv s G P) {a:Int} {o:Ob} (i:a0C a G=some o) (g: ∀b,o≠ .part b):a∈P∨ ∃b l ks sm,a0C b G=some (.node l ks sm)∧a∈ks∧a0W G l a∧l<3:=by
 rcases h.wants i with k| ⟨b,u,hb,f⟩
 ·exact .inl k
 ·have c:=h.typ b u hb;cases u with
  |part b=>cases f
  |ext d ats=>
   rcases z0B c a f with rfl| ⟨j,e⟩
   ·exact(h.ne0 i rfl).elim
   ·rw[i]at e;cases e;exact(g j rfl).elim
  |node l ks sm=>exact .inr ⟨b,l,ks,sm,hb,f,c.2.2.2.1 a f,c.1⟩
theorem j1G {l:List Int} {x:Int} (h:x∈l): ∃k,k<l.length∧l.getD k 0=x:=by
 obtain⟨k,a,rfl⟩:=List.getElem_of_mem h;exact⟨k,a,by rw[List.getD_eq_getElem?_getD,List.getElem?_eq_getElem a];rfl⟩
theorem Inv.reach (h:Inv s G P) (z: ∀r∈P,a0W G 3 r) {a:Int} {d:B} {ats:List Int} (n:a0C a G=some (.ext d ats)): ∃r∈P,∃j,j<512∧c0P G 2 r j=a:=by
 have f: ∀ {b:Int} {u:Ob},a0C b G=some u→(∀m o,u≠ .node 2 m o)→b ∉ P:=fun hb C A=>by
  rcases z _ A with c| ⟨m,o,e⟩
  ·exact h.ne0 hb c
  ·rw[hb]at e;cases e;exact C _ _ rfl
 rcases h.above n (fun _ e=>by cases e)with h1| ⟨b0,l0,ks0,sm0,hb0,hm0,k,_⟩
 ·exact(f n (fun _ _ e=>by cases e) h1).elim
 have p:l0=0:=by
  cases l0 with
  |zero=>rfl
  |succ l=>
   rcases k with c| ⟨_,_,e⟩
   ·exact(h.ne0 n c).elim
   ·rw[n]at e;cases e
 subst p;rcases h.above hb0 (fun _ e=>by cases e)with h1| ⟨b1,l1,ks1,sm1,hb1,hm1,g,_⟩
 ·exact(f hb0 (fun _ _ e=>by cases e) h1).elim
 have t:l1=1:=by
  cases l1 with
  |zero=>
   rcases g with c| ⟨_,_,e⟩
   ·exact(h.ne0 hb0 c).elim
   ·rw[hb0]at e;cases e
  |succ l=>
   rcases g with c| ⟨_,_,e⟩
   ·exact(h.ne0 hb0 c).elim
   ·rw[hb0]at e;cases e;rfl
 subst t;rcases h.above hb1 (fun _ e=>by cases e)with h1| ⟨b2,l2,ks2,sm2,hb2,hm2,i,_⟩
 ·exact(f hb1 (fun _ _ e=>by cases e) h1).elim
 have v:l2=2:=by
  cases l2 with
  |zero=>
   rcases i with c| ⟨_,_,e⟩
   ·exact(h.ne0 hb1 c).elim
   ·rw[hb1]at e;cases e
  |succ l=>
   rcases i with c| ⟨_,_,e⟩
   ·exact(h.ne0 hb1 c).elim
   ·rw[hb1]at e;cases e;rfl
 subst v;rcases h.above hb2 (fun _ e=>by cases e)with h1| ⟨b3,l3,ks3,sm3,hb3,hm3,hk3,hl3⟩
 ·obtain⟨k0,k,e0⟩:=j1G hm0;obtain⟨k1,g,x⟩:=j1G hm1;obtain⟨w,i,y⟩:=j1G hm2;have t0:=(h.typ _ _ hb0).2.1;have t1:=(h.typ _ _ hb1).2.1;have E:=(h.typ _ _ hb2).2.1;refine⟨b2,h1,w*64+k1*8+k0,by omega,?_⟩;have D:b0Q 2 (w*64+k1*8+k0)=(w,k1*8+k0):=by simp only[b0Q,Nat.reducePow,Prod.mk.injEq];omega
  have s1:b0Q 1 (k1*8+k0)=(k1,k0):=by simp only[b0Q,Nat.reducePow,Prod.mk.injEq];omega
  have s0:b0Q 0 k0=(k0,0):=by simp only[b0Q,Nat.reducePow,Prod.mk.injEq];omega
  have q: ∀ {b:Int} {l:Nat} {m:List Int} {o:B},a0C b G=some (.node l m o)→b0G G b=m:=fun hb=>by unfold b0G;rw[hb]
  simp only[c0P,D,s1,s0,q hb2,q hb1,q hb0,y,x,e0]
 ·have:l3=3:=by
   cases l3 with
   |zero=>
    rcases hk3 with c| ⟨_,_,e⟩
    ·exact(h.ne0 hb2 c).elim
    ·rw[hb2]at e;cases e
   |succ l=>
    rcases hk3 with c| ⟨_,_,e⟩
    ·exact(h.ne0 hb2 c).elim
    ·rw[hb2]at e;cases e;rfl
  omega
def x0Y (Ms:List (Nat→B)) (bits:Nat) (data:B):Prop:= ∃m∈Ms,∃j,j<512∧a0R (m j)=false∧m j≠data∧key bits (Sha.sum (m j))=key bits (Sha.sum data)
theorem Inv.clash (h:Inv s G P) (i: ∀r∈P,a0W G 3 r) (bits:Nat) (data:B):g1R G bits data↔x0Y (P.map (a0Z G)) bits data:=by
 constructor
 ·rintro⟨a,d,ats,c,hne,hk⟩;obtain⟨r,g,j,f,e⟩:=h.reach i c;have b:a0Z G r j=d:=by unfold a0Z d0F;rw[if_pos f,e,c]
  exact⟨a0Z G r,List.mem_map.2 ⟨r,g,rfl⟩,j,f,by rw[b];exact(h.typ _ _ c).2.1,by rw[b];exact hne,by rw[b];exact hk⟩
 ·rintro⟨m,b,j,f,hz,hne,hk⟩;obtain⟨r,g,rfl⟩:=List.mem_map.1 b;rcases h.leafKid 2 (i r g) j with k| ⟨d,ats,c⟩
  ·unfold a0Z d0F at hz;rw[k,h.zero]at hz;simp[d0N]at hz
  ·have b:a0Z G r j=d:=by unfold a0Z d0F;rw[if_pos f,c]
   rw[b]at hne hk;exact⟨_,d,ats,c,hne,hk⟩
end
end
end Go.Sb

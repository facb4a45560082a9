/- Part of the proof; no statement of its own. -/
import Derived.Test.YtpinhnikemamjaaGreatDoorB28
set_option linter.all false
set_option maxRecDepth 4000
set_option maxHeartbeats 4000000
namespace Go.Sb
section
def Fl {α:Type} (k:Nat) (C:Prop) (m:M α) (s:St):Prop:= ∃e s',m s=(.err e,s')∧(e=8∧(b0U s:Int)<s.keep+k∨e=9∧C)
theorem Fl.here {α β:Type} {k k':Nat} {C C':Prop} {m:M α} {f:α→M β} {s:St} (h:Fl k C m s) (hk:k≤k') (hC:C→C'):Fl k' C' (a0B m f) s:=by
 obtain⟨e,s',h1,h2⟩:=h
 exact⟨e,s',a0Q h1,h2.imp (fun⟨a,b⟩=>⟨a,by omega⟩) (fun⟨a,b⟩=>⟨a,hC b⟩)⟩
theorem Fl.there {α β:Type} {c k1 k2 k':Nat} {C C':Prop} {m:M α} {f:α→M β} {s t:St} {a:α} (h:m s=(.ok a,t)) (r:Rel c k1 s t) (hkp:t.keep=s.keep) (j:Fl k2 C (f a) t) (hk:k1+k2≤k') (hC:C→C'):Fl k' C' (a0B m f) s:=by
 obtain⟨e,s',h1,h2⟩:=j
 refine⟨e,s',by rw[a0A h];exact h1,h2.imp (fun⟨a,b⟩=>⟨a,?_⟩) (fun⟨a,b⟩=>⟨a,hC b⟩)⟩
 have:=r.room;omega
theorem Fl.mono {α:Type} {k k':Nat} {C C':Prop} {m:M α} {s:St} (h:Fl k C m s) (hk:k≤k') (hC:C→C'):Fl k' C' m s:=by
 obtain⟨e,s',h1,h2⟩:=h
 exact⟨e,s',h1,h2.imp (fun⟨a,b⟩=>⟨a,by omega⟩) (fun⟨a,b⟩=>⟨a,hC b⟩)⟩
section
variable {s:St} {G:Gh} {P:List Int}
theorem Inv.free_none (h:Inv s G P) {a:Int} (ha:j0L s a):a0H a G=none:=by
 cases hm:a0H a G with
 |none=>rfl
 |some u=>exact absurd (y0N ((h.held _).2 (by rw[hm];rfl)) ha) (by decide)
theorem Inv.same (h:Inv s G P) {G':Gh} (old: ∀b o,a0H b G'=some o→a0H b G=some o∨j0L s b) {b:Int} {o:Ob} (hl:(a0H b G).isSome=true) (hb:a0H b G'=some o):a0H b G=some o:=by
 rcases old b o hb with h1|h1
 ·exact h1
 ·rw[h.free_none h1]at hl;cases hl
theorem Inv.kidSame (h:Inv s G P) {G':Gh} (old: ∀b o,a0H b G'=some o→a0H b G=some o∨j0L s b) {l:Nat} {k:Int} (hk:b0K G l k) (hl:k=0∨(a0H k G').isSome=true):b0K G' l k:=by
 rcases hl with rfl|hl
 ·cases l<;>exact .inl rfl
 ·obtain⟨o,ho⟩:=Option.isSome_iff_exists.1 hl
  rcases j0Q hk with rfl|hg
  ·cases l<;>exact .inl rfl
  ·have h1:=h.same old hg ho
   cases l with
   |zero=>
    rcases hk with rfl| ⟨d,ats,e⟩
    ·exact .inl rfl
    ·rw[e]at h1;cases h1;exact .inr ⟨d,ats,ho⟩
   |succ l=>
    rcases hk with rfl| ⟨d,ats,e⟩
    ·exact .inl rfl
    ·rw[e]at h1;cases h1;exact .inr ⟨d,ats,ho⟩
theorem Inv.leafSame (h:Inv s G P) {G':Gh} (old: ∀b o,a0H b G'=some o→a0H b G=some o∨j0L s b) (z':a0H 0 G'=none) {k:Int} (hk:b0K G 0 k) (hl:k=0∨(a0H k G').isSome=true):e0B G' k=e0B G k:=by
 rcases hl with rfl|hl
 ·unfold e0B;rw[z',h.zero]
 ·obtain⟨o,ho⟩:=Option.isSome_iff_exists.1 hl
  rcases j0Q hk with rfl|hg
  ·rw[z']at ho;cases ho
  ·unfold e0B;rw[ho,h.same old hg ho]
theorem t0K (hz:a0H 0 G=none): ∀(l j:Nat),c0Z G l 0 j=0
 |0,j=>by
  unfold c0Z c0B;rw[hz]
  have: ∀k,f0B.getD k 0=0:=fun k=>by
   rcases Nat.lt_or_ge k 8 with h|h
   ·have:=g0I (l:=f0B) (i:=k) h
    simpa [f0B] using this
   ·rw[List.getD_eq_getElem?_getD,List.getElem?_eq_none (by simpa [f0B] using h)];rfl
  exact this _
 |l+1,j=>by
  unfold c0Z c0B;rw[hz]
  have: ∀k,f0B.getD k 0=0:=fun k=>by
   rcases Nat.lt_or_ge k 8 with h|h
   ·have:=g0I (l:=f0B) (i:=k) h
    simpa [f0B] using this
   ·rw[List.getD_eq_getElem?_getD,List.getElem?_eq_none (by simpa [f0B] using h)];rfl
  simp only[this]
  exact t0K hz l _
theorem Inv.mapSame (h:Inv s G P) {s':St} {G':Gh} {P':List Int} (h':Inv s' G' P') (old: ∀b o,a0H b G'=some o→a0H b G=some o∨j0L s b): ∀(l:Nat) {root:Int},b0K G (l+1) root→(root=0∨(a0H root G').isSome=true)→
 ∀j,c0Z G' l root j=c0Z G l root j∧b0K G 0 (c0Z G l root j)∧(c0Z G l root j=0∨(a0H (c0Z G l root j) G').isSome=true)
 |l,root,hk,.inl e,j=>by
  subst e
  rw[t0K h'.zero,t0K h.zero]
  exact⟨rfl,.inl rfl,.inl rfl⟩
 |0,root,hk,.inr hl,j=>by
  have hk':=h.kidSame old hk (.inr hl)
  have e:c0B G' root=c0B G root:=by
   rcases hk' with rfl| ⟨ks,sm,ho⟩
   ·unfold c0B;rw[h'.zero,h.zero]
   ·unfold c0B
    rcases j0Q hk with rfl|hg
    ·rw[h'.zero]at ho;cases ho
    ·rw[ho,h.same old hg ho]
  have hm:=(h'.kids hk').2 ((c0B G root).getD (b0X 0 j).1 0) (by rw[e];exact g0I (by rw[(h.kids hk).1];exact p0E 0 j))
  refine⟨by unfold c0Z;rw[e],h.leafKid 0 hk j,?_⟩
  exact j0Q hm
 |l+1,root,hk,.inr hl,j=>by
  have hk':=h.kidSame old hk (.inr hl)
  have e:c0B G' root=c0B G root:=by
   rcases hk' with rfl| ⟨ks,sm,ho⟩
   ·unfold c0B;rw[h'.zero,h.zero]
   ·unfold c0B
    rcases j0Q hk with rfl|hg
    ·rw[h'.zero]at ho;cases ho
    ·rw[ho,h.same old hg ho]
  have hm:=(h'.kids hk').2 ((c0B G root).getD (b0X (l+1) j).1 0) (by rw[e];exact g0I (by rw[(h.kids hk).1];exact p0E (l+1) j))
  have hm0:=(h.kids hk).2 ((c0B G root).getD (b0X (l+1) j).1 0) (g0I (by rw[(h.kids hk).1];exact p0E (l+1) j))
  have ih:=h.mapSame h' old l hm0 (j0Q hm) (b0X (l+1) j).2
  unfold c0Z
  rw[e];exact ih
theorem Inv.putN {o:Ob} (h:Inv s G (g0Y o++P)) (hi:Idx s G) (hok:w0K G o) (hne: ∀d ats,o≠ .ext d ats) (hr:d0O 3 s):
 (∃a s',e0S (l0D o) s=(.ok a,s')∧Inv s' ((a,o)::G) (a::P)∧Stp 3 1 s G s' ((a,o)::G)∧a0H a G=none∧a≠0∧s'.index=s.index)∨Fl 1 False (e0S (l0D o)) s:=by
 by_cases hf:s.keep<(b0U s:Int)
 ·have hl:(l0D o).length=64:=by
   cases o with
   |part b=>exact hok
   |ext d ats=>exact(hne d ats rfl).elim
   |node l ks sm=>
    obtain⟨t1,t2,t3,t4,t5⟩:=hok
    exact(x1E (x:= {kids:=ks,sum:=sm}) (l:=l) (by omega) ⟨t2,fun x hx=>h.kid_range (t4 x hx),by rw[t5];exact u0U _ _⟩).2
  obtain⟨a,s',e,i,r,hfr,q1,q2,q3,q4⟩:=h.put hok hl hr.d (by have:=hr.l;omega) hf
  have hn:=h.free_none hfr
  have hi':Idx s' ((a,o)::G):=fun k b=>by
   rw[q1,r.bits,hi k b]
   constructor
   ·rintro⟨d,ats,hb,e⟩
    exact⟨d,ats,by rw[d0P,if_neg (fun e2=>by rw[←e2,hn]at hb;cases hb)];exact hb,e⟩
   ·rintro⟨d,ats,hb,e⟩
    rw[d0P]at hb
    split at hb
    ·cases hb;exact(hne d ats rfl).elim
    ·exact⟨d,ats,hb,e⟩
  refine .inl ⟨a,s',e,i,⟨r,hi',fun b u hb=> ?_,q2,q3,q4⟩,hn,i.ne0 (o:=o) (by rw[d0P,if_pos rfl]),q1⟩
  rw[d0P]at hb
  split at hb
  ·rename_i e2;exact .inr (e2▸hfr)
  ·exact .inl hb
 ·exact .inr ⟨8,s,by unfold e0S;rw[if_pos (by omega)],.inl ⟨rfl,by omega⟩⟩
theorem Inv.xputs {d:B} (hd:d.length=256): ∀(n:Nat),n≤4→ ∀ {s:St} {G:Gh} {P:List Int},Inv s G P→Idx s G→d0O (n*3) s→
 (∃ps s' G',m0K d n s=(.ok ps,s')∧Inv s' G' (ps.map (·.1)++P)∧Stp (n*3) n s G s' G'∧ps.length=n∧s'.index=s.index∧
  (∀b o,a0H b G=some o→a0H b G'=some o)∧
  ∀i,i<n→if b0B (part d (4-n+i))=true then ps.getD i (0,0)=(0,0)else(ps.getD i (0,0)).1≠0∧a0H (ps.getD i (0,0)).1 G'=some (.part (part d (4-n+i)))∧(ps.getD i (0,0)).2=f0T (part d (4-n+i)))∨
 Fl n False (m0K d n) s
 |0,_,s,G,P,h,hi,_=> .inl ⟨[],s,G,rfl,h,(Stp.refl h hi).mono (by omega) (by omega),rfl,rfl,fun _ _ h=>h,fun i hi=>by omega⟩
 |n+1,hn,s,G,P,h,hi,hr=>by
  have hr':d0O (3+n*3) s:=hr.le (by omega)
  unfold Go.Sb.m0K
  simp only
  have hone:(∃p s1 G1,(if b0B (part d (4- (n+1)))=true then ret (0,0)else a0B (e0S (part d (4- (n+1)))) fun a=>ret (a,f0T (part d (4- (n+1)))):M (Int×Nat)) s=(.ok p,s1)∧Inv s1 G1 (p.1::P)∧Stp 3 1 s G s1 G1∧s1.index=s.index∧
   (∀b o,a0H b G=some o→a0H b G1=some o)∧
   if b0B (part d (4- (n+1)))=true then p=(0,0)else p.1≠0∧a0H p.1 G1=some (.part (part d (4- (n+1))))∧p.2=f0T (part d (4- (n+1))))∨
   Fl 1 False (if b0B (part d (4- (n+1)))=true then ret (0,0)else a0B (e0S (part d (4- (n+1)))) fun a=>ret (a,f0T (part d (4- (n+1)))):M (Int×Nat)) s:=by
   by_cases hz:b0B (part d (4- (n+1)))=true
   ·simp only[if_pos hz]
    exact .inl ⟨(0,0),s,G,rfl,h.add0,(Stp.refl h hi).mono (by omega) (by omega),rfl,fun _ _ h=>h,rfl⟩
   ·simp only[if_neg hz]
    rcases Inv.putN (o:= .part (part d (4- (n+1)))) (P:=P) h hi (f1W hd (by omega)) (fun _ _ e=>by cases e) (hr'.le (by omega))with ⟨a,s1,e1,i1,t1,hn1,ha0,x1⟩|hf
    ·refine .inl ⟨(a,f0T (part d (4- (n+1)))),s1,_,?_,i1,t1,x1,fun b o hb=> ?_,ha0,by rw[d0P,if_pos rfl],rfl⟩
     ·have e1':e0S (part d (4- (n+1))) s=(.ok a,s1):=e1
      rw[a0A e1'];rfl
     ·rw[d0P,if_neg (fun e=>by rw[←e,hn1]at hb;cases hb)];exact hb
    ·exact .inr (Fl.here (m:=e0S (part d (4- (n+1)))) hf (Nat.le_refl _) id)
  rcases hone with ⟨p,s1,G1,e1,i1,t1,x1,k1,c1⟩|hf
  ·rcases Inv.xputs hd n (by omega) i1 t1.idx (hr'.go t1.rel)with ⟨ps,s2,G2,e2,i2,t2,l2,x2,k2,c2⟩|hf
   ·refine .inl ⟨p::ps,s2,G2,by rw[a0A e1,a0A e2];rfl,i2.perm fun x hx=> ?_,(t1.trans t2).mono (by omega) (by omega),by simp[l2],x2.trans x1,fun b o hb=>k2 b o (k1 b o hb),fun i hi=> ?_⟩
    ·simp only[List.map_cons,List.cons_append,List.count_append,List.count_cons];omega
    ·cases i with
     |zero=>
      simp only[Nat.add_zero,List.getD_cons_zero]
      split at c1
      ·rename_i hz;rw[if_pos hz];exact c1
      ·rename_i hz;rw[if_neg hz];exact⟨c1.1,k2 _ _ c1.2.1,c1.2.2⟩
     |succ i=>
      have:=c2 i (by omega)
      rw[show 4- (n+1)+(i+1)=4-n+i by omega]
      simpa only[List.getD_cons_succ] using this
   ·exact .inr (Fl.there e1 t1.rel t1.keep (hf.here (Nat.le_refl _) id) (by omega) id)
  ·exact .inr (hf.here (by omega) id)
def e1G (G:Gh) (bits:Nat) (data:B):Prop:= ∃a d ats,a0H a G=some (.ext d ats)∧d≠data∧key bits (Sha.sum d)=key bits (Sha.sum data)
theorem Inv.xput (h:Inv s G P) (hi:Idx s G) {data:B} (hd:data.length=256) (hr:d0O 16 s) (hP:P.length≤1000000):
 (∃a s' G',i0F data s=(.ok a,s')∧Inv s' G' (a::P)∧Stp 16 5 s G s' G'∧b0K G' 0 a∧e0B G' a=data∧(b0B data=false→ ¬e1G G s.bits data))∨Fl 5 (b0B data=false∧e1G G s.bits data) (i0F data) s:=by
 unfold Go.Sb.i0F
 rw[if_neg (by omega)]
 by_cases hz:b0B data=true
 ·rw[if_pos hz]
  refine .inl ⟨0,s,G,rfl,h.add0,(Stp.refl h hi).mono (by omega) (by omega),.inl rfl,?_,fun e=>by rw[hz]at e;cases e⟩
  unfold e0B;rw[h.zero,z0W hz hd]
 ·rw[if_neg hz]
  have hz':b0B data=false:=by simpa using hz
  cases hm:a0H (key s.bits (Sha.sum data)) s.index with
  |some a=>
   obtain⟨d,ats,ho,hk⟩:=(hi _ _).1 hm
   have hone: ∀b d' ats',a0H b G=some (.ext d' ats')→key s.bits (Sha.sum d')=key s.bits (Sha.sum data)→b=a:=fun b d' ats' hb e=>by
    have:=(hi (key s.bits (Sha.sum data)) b).2 ⟨d',ats',hb,e.symm⟩
    rw[hm]at this;cases this;rfl
   by_cases hdd:d=data
   ·subst hdd
    obtain⟨s1,e1,i1,r1,q1,q2,q3,q4⟩:=h.more ho hr.d (by have:=hr.l;omega) hP
    refine .inl ⟨a,s1,G,?_,i1,⟨r1.mono (by omega) (by omega),fun k b=>by rw[q1,r1.bits];exact hi k b,fun _ _ h=> .inl h,q2,q3,q4⟩,.inr ⟨d,ats,ho⟩,by unfold e0B;rw[ho],?_⟩
    ·simp only[hm]
     rw[a0A (h.xget ho)]
     show(if d≠d then n0F 9 else a0B (j0X a) fun _=>ret a:M Int) s=_
     rw[if_neg (by simp),a0A e1];rfl
    ·rintro _ ⟨b,d',ats',hb,hne,e⟩
     have:=hone b d' ats' hb e
     subst this
     rw[ho]at hb;cases hb;exact hne rfl
   ·refine .inr ⟨9,s,?_,.inr ⟨rfl,hz',a,d,ats,ho,hdd,hk.symm⟩⟩
    simp only[hm]
    rw[a0A (h.xget ho)]
    show(if d≠data then n0F 9 else a0B (j0X a) fun _=>ret a:M Int) s=_
    rw[if_pos hdd];rfl
  |none=>
   have hnc: ¬e1G G s.bits data:=by
    rintro⟨b,d',ats',hb,_,e⟩
    have:=(hi (key s.bits (Sha.sum data)) b).2 ⟨d',ats',hb,e.symm⟩
    rw[hm]at this;cases this
   rcases h.xputs hd 4 (Nat.le_refl _) hi (hr.le (by omega))with ⟨ps,s1,G1,e1,i1,t1,l1,x1,k1,c1⟩|hf
   ·have hmap: ∀i,(ps.map (·.1)).getD i 0=(ps.getD i (0,0)).1:=fun i=>by
     rw[List.getD_eq_getElem?_getD,List.getD_eq_getElem?_getD,List.getElem?_map]
     cases ps[i]? <;>rfl
    have hok:w0K G1 (.ext data (ps.map (·.1))):=by
     refine⟨hd,hz',by simp[l1],fun k hk=> ?_⟩
     have:=c1 k hk
     rw[show 4-4+k=k by omega]at this
     unfold w0J
     split at this
     ·rename_i hz;rw[if_pos hz,hmap,this]
     ·rename_i hz;rw[if_neg hz,hmap];exact⟨this.1,this.2.1⟩
    have hsums:ps.map (·.2)=(List.range 4).map fun k=>if b0B (part data k)then 0 else f0T (part data k):=by
     apply List.ext_getElem?
     intro i
     by_cases hi4:i<4
     ·have:=c1 i hi4
      rw[show 4-4+i=i by omega]at this
      have hg:ps[i]? =some (ps.getD i (0,0)):=by rw[List.getD_eq_getElem?_getD,List.getElem?_eq_getElem (by omega)];rfl
      rw[List.getElem?_map,hg,List.getElem?_map,List.getElem?_range hi4]
      split at this
      ·rename_i hz;rw[this];simp[hz]
      ·rename_i hz;simp only[Option.map_some,this.2.2,hz];rfl
     ·rw[List.getElem?_eq_none (by simp;omega),List.getElem?_eq_none (by simp;omega)]
    have hbytes:h0B {at_:=ps.map (·.1),sums:=ps.map (·.2),sum:=Sha.sum data} =l0D (.ext data (ps.map (·.1))):=by
     show _=h0B (n0X _ _);unfold n0X;rw[hsums]
    have hr1:d0O 4 s1:=(hr.le (by omega):d0O (4*3+4) s).go t1.rel
    by_cases hf:s1.keep<(b0U s1:Int)
    ·have hl64:(l0D (.ext data (ps.map (·.1)))).length=64:=by
      refine(x1D ⟨by simp[n0X,l1],fun x hx=> ?_,by simp[n0X],fun c hc=> ?_,q0F _⟩).2
      ·rcases c1Z hok x hx with rfl| ⟨b,hb⟩
       ·omega
       ·have:=i1.range hb;omega
      ·obtain⟨k,_,rfl⟩:=List.mem_map.1 hc
       split
       ·decide
       ·exact Nat.lt_of_lt_of_eq (d1T _) (by decide)
     obtain⟨a,s2,e2,i2,r2,hfr,q1,q2,q3,q4⟩:=Inv.put (o:= .ext data (ps.map (·.1))) (P:=P) i1 hok hl64 hr1.d (by have:=hr1.l;omega) hf
     have hr2:d0O 1 s2:=(hr1.le (by omega):d0O (3+1) s1).go r2
     have e3:f0C (key s2.bits (Sha.sum data)) a s2=(.ok (),{s2 with log:=bk s2.depth s2.log (.index (key s2.bits (Sha.sum data)) (a0H (key s2.bits (Sha.sum data)) s2.index)),index:=c0F (key s2.bits (Sha.sum data)) a s2.index}):=by
      have:=hr2.l
      simp[f0C,a0B,back,show ¬1000000000≤s2.log.length by omega]
     have r3:=e1P (key s2.bits (Sha.sum data)) a s2 hr2.d i2.u (by rw[e3];simp)
     rw[e3]at r3
     have hn:=i1.free_none hfr
     have hb2:s2.bits=s.bits:=r2.bits.trans t1.rel.bits
     have hidx: ∀k b,a0H k s1.index=some b↔ ∃d ats,a0H b G1=some (.ext d ats)∧k=key s.bits (Sha.sum d):=fun k b=>by
      have:=t1.idx k b;rw[t1.rel.bits]at this;exact this
     refine .inl ⟨a,_,(a,.ext data (ps.map (·.1)))::G1,?_,⟨r3.ok,i2.nod,i2.lo,i2.hi,i2.refs,i2.live,i2.zero,i2.held,i2.disk,i2.typ,i2.cnt⟩,⟨((t1.rel.trans r2).trans r3).mono (by omega) (by omega),fun k b=> ?_,fun b o hb=> ?_,q2.trans t1.keep,q3.trans t1.vols,q4.trans t1.next⟩,.inr ⟨data,_,by rw[d0P,if_pos rfl]⟩,by unfold e0B;rw[d0P,if_pos rfl],fun _=>hnc⟩
     ·simp only[hm]
      rw[a0A e1]
      simp only[hbytes]
      rw[a0A e2]
      show a0B (fun s=>f0C (key s.bits (Sha.sum data)) a s) _ s2=_
      rw[a0A (m:=fun s=>f0C (key s.bits (Sha.sum data)) a s) e3];rfl
     ·show a0H k (c0F (key s2.bits (Sha.sum data)) a s2.index)=some b↔ ∃d' ats',a0H b ((a,Ob.ext data (ps.map (·.1)))::G1)=some (Ob.ext d' ats')∧k=key s2.bits (Sha.sum d')
      rw[i0T,hb2,q1]
      constructor
      ·intro hk
       split at hk
       ·rename_i e;cases hk;exact⟨data,_,by rw[d0P,if_pos rfl],e.symm⟩
       ·obtain⟨d',ats',hb,e⟩:=(hidx k b).1 hk
        exact⟨d',ats',by rw[d0P,if_neg (fun e2=>by rw[←e2,hn]at hb;cases hb)];exact hb,e⟩
      ·rintro⟨d',ats',hb,e⟩
       rw[d0P]at hb
       split at hb
       ·rename_i e2;cases hb;subst e2;rw[if_pos e.symm]
       ·have hk:=(hidx k b).2 ⟨d',ats',hb,e⟩
        rw[if_neg]
        ·exact hk
        ·intro e2
         rw[x1,←e2,hm]at hk;cases hk
     ·rw[d0P]at hb
      split at hb
      ·rename_i e;subst e;exact .inr (t1.rel.free _ hfr)
      ·exact t1.old b o hb
    ·refine .inr ⟨8,s1,?_,.inl ⟨rfl,?_⟩⟩
     ·simp only[hm]
      rw[a0A e1]
      refine a0Q ?_
      unfold e0S;rw[if_pos (by omega)]
     ·have:=t1.rel.room;have:=t1.keep;omega
   ·refine .inr ?_
    obtain⟨e,s',h1,h2⟩:=hf
    refine⟨e,s',by simp only[hm];exact a0Q h1,h2.imp (fun⟨a,b⟩=>⟨a,by omega⟩) (fun⟨_,b⟩=>b.elim)⟩
end
end
section
theorem y0W: ∀ {l:List Int} {k:Nat} (_:k<l.length) (r x:Int),(l.set k r).count x=(if r=x then 1 else 0)+(l.eraseIdx k).count x
 | [],k,h,_,_=>by simp at h
 |y::l,0,_,r,x=>by simp only[List.set_cons_zero,List.eraseIdx_cons_zero,List.count_cons,beq_iff_eq];omega
 |y::l,k+1,h,r,x=>by
  have:=y0W (l:=l) (k:=k) (by simpa using h) r x
  simp only[List.set_cons_succ,List.eraseIdx_cons_succ,List.count_cons];omega
theorem y1M {l:List Int} {k:Nat} (h:k<l.length) (x:Int):l.count x=(if l.getD k 0=x then 1 else 0)+(l.eraseIdx k).count x:=by
 have h1:=y0W h (l.getD k 0) x
 have e:l.set k (l.getD k 0)=l:=by
  rw[List.getD_eq_getElem?_getD,List.getElem?_eq_getElem h]
  exact List.set_getElem_self h
 rw[e]at h1;exact h1
theorem r0H (r x:Int) (l:List Int):(r::l).count x=(if r=x then 1 else 0)+l.count x:=by
 rw[List.count_cons];by_cases e:r=x<;>simp[e]<;>omega
theorem d1A {l:List Int} {k:Nat} {x:Int} (h:x∈l.eraseIdx k):x∈l:=List.mem_of_mem_eraseIdx h
theorem y1N {l:List Int} {k:Nat} (hk:k<l.length) {r x:Int} (h:x∈l.set k r):x=r∨x∈l.eraseIdx k:=by
 have h1:=List.count_pos_iff.2 h
 rw[y0W hk]at h1
 by_cases e:r=x
 ·exact .inl e.symm
 ·rw[if_neg e]at h1;exact .inr (List.count_pos_iff.1 (by omega))
section
variable {s:St} {G:Gh} {P:List Int}
theorem Inv.mores (l:Nat): ∀(ks:List Int) {s:St} {P:List Int},Inv s G P→Idx s G→(∀k∈ks,b0K G l k)→d0O ks.length s→P.length+ks.length≤1000000→
 ∃s',h0T (g0O · l) ks s=(.ok (),s')∧Inv s' G (ks++P)∧Stp ks.length 0 s G s' G
 | [],s,P,h,hi,_,_,_=>⟨s,rfl,h,Stp.refl h hi⟩
 |x::ks,s,P,h,hi,hk,hr,hP=>by
  simp only[List.length_cons]at hr hP
  have hr':d0O (1+ks.length) s:=hr.le (by omega)
  have one: ∃s1,g0O x l s=(.ok (),s1)∧Inv s1 G (x::P)∧Stp 1 0 s G s1 G:=by
   by_cases h0:x=0
   ·subst h0
    exact⟨s,by unfold g0O;rw[if_pos rfl];rfl,h.add0,(Stp.refl h hi).mono (by omega) (by omega)⟩
   ·have hl:(a0H x G).isSome=true:=(j0Q (hk x (List.mem_cons_self ..))).resolve_left h0
    obtain⟨o,ho⟩:=Option.isSome_iff_exists.1 hl
    obtain⟨s1,e1,i1,r1,q1,q2,q3,q4⟩:=h.more ho hr.d (by have:=hr.l;omega) (by omega)
    refine⟨s1,?_,i1,r1,fun k b=>by rw[q1,r1.bits];exact hi k b,fun _ _ h=> .inl h,q2,q3,q4⟩
    unfold g0O
    rw[if_neg h0]
    split
    ·unfold s0F;rw[if_neg h0];exact e1
    ·exact e1
  obtain⟨s1,e1,i1,t1⟩:=one
  obtain⟨s2,e2,i2,t2⟩:=Inv.mores l ks i1 t1.idx (fun y hy=>hk y (List.mem_cons_of_mem _ hy)) (hr'.go t1.rel) (by simp;omega)
  refine⟨s2,by unfold h0T;rw[a0A e1];exact e2,i2.perm fun y hy=> ?_,(t1.trans t2).mono (by simp;omega) (by omega)⟩
  simp only[List.count_append,List.cons_append,List.count_cons];omega
theorem c2N (k:Nat):f0B.getD k 0=0:=by
 rcases Nat.lt_or_ge k 8 with h|h
 ·have:=g0I (l:=f0B) (i:=k) h
  simpa [f0B] using this
 ·rw[List.getD_eq_getElem?_getD,List.getElem?_eq_none (by simpa [f0B] using h)];rfl
theorem s1Z {l:List Int} {k j:Nat} (hk:k<l.length) (r:Int):(l.set k r).getD j 0=if j=k then r else l.getD j 0:=by
 rw[List.getD_eq_getElem?_getD,List.getD_eq_getElem?_getD]
 by_cases e:j=k
 ·subst e;rw[List.getElem?_set_self hk];simp
 ·rw[List.getElem?_set_ne (Ne.symm e),if_neg e]
theorem Inv.renew (l:Nat) {ks:List Int} (h:Inv s G (ks++P)) (hi:Idx s G) (hl:l<3) (h8:ks.length=8) (hk: ∀k∈ks,b0K G l k) (hr:d0O 3 s):
 (∃r s' G',(if ks=f0B then ret 0 else a0B (Go.Sb.g0P l ks) fun ss=>e0S (i0R l {kids:=ks,sum:=f0X l ss}):M Int) s=(.ok r,s')∧Inv s' G' (r::P)∧Stp 3 1 s G s' G'∧b0K G' (l+1) r∧c0B G' r=ks∧(∀b o,a0H b G=some o→a0H b G'=some o))∨
 Fl 1 False (if ks=f0B then ret 0 else a0B (Go.Sb.g0P l ks) fun ss=>e0S (i0R l {kids:=ks,sum:=f0X l ss}):M Int) s:=by
 by_cases hz:ks=f0B
 ·simp only[if_pos hz]
  refine .inl ⟨0,s,G,rfl,h.perm fun x hx=> ?_,(Stp.refl h hi).mono (by omega) (by omega),.inl rfl,by unfold c0B;rw[h.zero,hz],fun _ _ h=>h⟩
  rw[hz,List.count_append,r0H,if_neg (Ne.symm hx)]
  have:f0B.count x=0:=List.count_eq_zero.2 fun hm=>hx (by simpa [f0B] using hm)
  omega
 ·simp only[if_neg hz]
  have e0:=h.rsums l ks hk
  have hok:w0K G (.node l ks (f0X l (ks.map (f0I G)))):=⟨hl,h8,hz,hk,rfl⟩
  rcases Inv.putN (o:= .node l ks (f0X l (ks.map (f0I G)))) (P:=P) h hi hok (fun _ _ e=>by cases e) hr with ⟨a,s',e1,i1,t1,hn,ha0,_⟩|hf
  ·refine .inl ⟨a,s',_,by rw[a0A e0];exact e1,i1,t1,.inr ⟨_,_,by rw[d0P,if_pos rfl]⟩,by unfold c0B;rw[d0P,if_pos rfl],fun b o hb=> ?_⟩
   rw[d0P,if_neg (fun e=>by rw[←e,hn]at hb;cases hb)];exact hb
  ·obtain⟨e,s',h1,h2⟩:=hf
   exact .inr ⟨e,s',by rw[a0A e0];exact h1,h2⟩
theorem j1N {G':Gh} (hs: ∀b o,a0H b G=some o→a0H b G'=some o) {k:Int} {l:Nat} (hk:b0K G l k):k=0∨(a0H k G').isSome=true:=by
 rcases j0Q hk with h|h
 ·exact .inl h
 ·obtain⟨o,ho⟩:=Option.isSome_iff_exists.1 h
  exact .inr (by rw[hs _ _ ho];rfl)
theorem s0N {l at_:Nat} (h:at_<8^(l+1)):at_=(b0X l at_).1*8^l+(b0X l at_).2∧(b0X l at_).2<8^l:=by
 have hp:0<8^l:=Nat.pos_of_ne_zero (by simp)
 have h1:at_/8^l<8:=by rw[Nat.div_lt_iff_lt_mul hp,Nat.mul_comm];rw[Nat.pow_succ]at h;exact h
 unfold b0X
 simp only
 rw[Nat.mod_eq_of_lt h1,Nat.mul_comm]
 exact⟨(Nat.div_add_mod _ _).symm,Nat.mod_lt _ hp⟩
theorem y1O {l a b:Nat} (ha:a<8^(l+1)) (hb:b<8^(l+1)):(b0X l a).1=(b0X l b).1∧(b0X l a).2=(b0X l b).2↔a=b:=by
 constructor
 ·rintro⟨h1,h2⟩
  rw[(s0N ha).1,(s0N hb).1,h1,h2]
 ·rintro rfl;exact⟨rfl,rfl⟩
theorem Inv.rset: ∀(l:Nat) {s:St} {G:Gh} {P:List Int} {root:Int} {at_:Nat} {to_:Int},Inv s G (root::to_::P)→Idx s G→b0K G (l+1) root→b0K G 0 to_→l<3→at_<8^(l+1)→d0O (f0U l) s→P.length+100+100*l≤900000→
 (∃r s' G',Go.Sb.h0V l root at_ to_ s=(.ok r,s')∧Inv s' G' (r::P)∧Stp (f0U l) (l+1) s G s' G'∧b0K G' (l+1) r∧ ∀j,j<8^(l+1)→c0Z G' l r j=if j=at_ then to_ else c0Z G l root j)∨
 Fl (l+1) False (Go.Sb.h0V l root at_ to_) s:=by
 intro l
 induction l with
 |zero=>
  intro s G P root at_ to_ h hi hroot hto hl hat hr hP
  have hk8:=h.kids hroot
  have hsl:(b0X 0 at_).1<(c0B G root).length:=by rw[hk8.1];exact p0E 0 at_
  have hrm:d0O (8+(j0D 1+(21+3))) s:=hr.le (by decide)
  have e0:=h.loadK hroot
  obtain⟨s1,e1,i1,t1⟩:=Inv.mores 0 (c0B G root) h hi hk8.2 (by rw[hk8.1];exact hrm.le (by omega)) (by simp;omega)
  rw[hk8.1]at t1
  have hr1:=hrm.go t1.rel
  have i1':Inv s1 G (root::(c0B G root++to_::P)):=i1.perm fun x hx=>by simp only[List.count_append,List.count_cons];omega
  obtain⟨s2,G2,e2,i2,t2,b2⟩:=Inv.rless 1 i1' t1.idx hroot (hr1.le (by omega)) (by simp;omega)
  have hr2:d0O (21+3) s2:=hr1.go t2.rel
  have i2':Inv s2 G2 ((c0B G root).getD (b0X 0 at_).1 0::((c0B G root).eraseIdx (b0X 0 at_).1++to_::P)):=i2.perm fun x hx=>by
   rw[r0H,List.count_append,List.count_append,y1M hsl x];omega
  have hkk:b0K G2 0 ((c0B G root).getD (b0X 0 at_).1 0):=v0Q b2 (hk8.2 _ (g0I hsl)) (by
   by_cases h0:(c0B G root).getD (b0X 0 at_).1 0=0
   ·exact .inl h0
   ·exact .inr (i2'.pend (List.mem_cons_self ..) h0))
  obtain⟨s3,G3,e3,i3,t3,b3⟩:=i2'.xless t2.idx hkk (hr2.le (by omega)) (by simp;rw[List.length_eraseIdx];split<;>omega)
  have hr3:d0O 3 s3:=hr2.go t3.rel
  have b13:Sub G3 G:=b3.trans b2
  have i3':Inv s3 G3 ((c0B G root).set (b0X 0 at_).1 to_++P):=i3.perm fun x hx=>by
   rw[List.count_append,List.count_append,r0H,y0W hsl];omega
  have hks: ∀k∈(c0B G root).set (b0X 0 at_).1 to_,b0K G3 0 k:=fun k hm=>by
   have hp:=i3'.pend (x:=k) (List.mem_append_left _ hm)
   refine v0Q b13 ?_ (if h0:k=0 then .inl h0 else .inr (hp h0))
   rcases y1N hsl hm with rfl|h1
   ·exact hto
   ·exact hk8.2 _ (d1A h1)
  have eset:Go.Sb.h0V 0 root at_ to_ s=(if(c0B G root).set (b0X 0 at_).1 to_=f0B then ret 0 else a0B (Go.Sb.g0P 0 ((c0B G root).set (b0X 0 at_).1 to_)) fun ss=>e0S (i0R 0 {kids:=(c0B G root).set (b0X 0 at_).1 to_,sum:=f0X 0 ss}):M Int) s3:=by
   unfold Go.Sb.h0V
   rw[a0A e0]
   simp only
   rw[a0A e1,a0A (show t0Q root 0 s1=_ from e2),a0A (show(a0B (Go.Sb.g0A ((c0B G root).getD (b0X 0 at_).1 0)) fun _=>ret to_) s2=(.ok to_,s3) by rw[a0A e3];rfl)]
  have t123:=(t1.trans t2).trans t3
  rcases Inv.renew 0 i3' t3.idx (by omega) (by simp[hk8.1]) hks hr3 with ⟨r,s4,G4,e4,i4,t4,k4,q4,sup4⟩|hf
  ·refine .inl ⟨r,s4,G4,by rw[eset,e4],i4,(t123.trans t4).mono (by simp only[f0U];omega) (by omega),k4,fun j hj=> ?_⟩
   unfold c0Z
   rw[q4,s1Z hsl]
   have:=y1O (l:=0) hj hat
   have h2:(b0X 0 j).2=(b0X 0 at_).2:=by simp[b0X,Nat.mod_one]
   by_cases e:j=at_
   ·rw[if_pos e,if_pos (by rw[e])]
   ·rw[if_neg e,if_neg (fun e2=>e (this.1 ⟨e2,h2⟩))]
  ·obtain⟨e,s',h1,h2⟩:=hf
   refine .inr ⟨e,s',by rw[eset,h1],h2.imp (fun⟨a,b⟩=>⟨a,?_⟩) id⟩
   have:=t123.rel.room;have:=t123.keep;omega
 |succ l ih=>
  intro s G P root at_ to_ h hi hroot hto hl hat hr hP
  have hk8:=h.kids hroot
  have hsl:(b0X (l+1) at_).1<(c0B G root).length:=by rw[hk8.1];exact p0E (l+1) at_
  have hrm:d0O (8+(j0D (l+2)+(f0U l+3))) s:=hr.le (by simp only[f0U];omega)
  have e0:=h.loadK hroot
  obtain⟨s1,e1,i1,t1⟩:=Inv.mores (l+1) (c0B G root) h hi hk8.2 (by rw[hk8.1];exact hrm.le (by omega)) (by simp;omega)
  rw[hk8.1]at t1
  have hr1:=hrm.go t1.rel
  have i1':Inv s1 G (root::(c0B G root++to_::P)):=i1.perm fun x hx=>by simp only[List.count_append,List.count_cons];omega
  obtain⟨s2,G2,e2,i2,t2,b2⟩:=Inv.rless (l+2) i1' t1.idx hroot (hr1.le (by omega)) (by simp;omega)
  have hr2:d0O (f0U l+3) s2:=hr1.go t2.rel
  have i2':Inv s2 G2 ((c0B G root).getD (b0X (l+1) at_).1 0::to_::((c0B G root).eraseIdx (b0X (l+1) at_).1++P)):=i2.perm fun x hx=>by
   rw[r0H,r0H,List.count_append,List.count_append,r0H,y1M hsl x];omega
  have live2: ∀k∈c0B G root,b0K G2 (l+1) k:=fun k hm=>v0Q b2 (hk8.2 _ hm) (by
   by_cases h0:k=0
   ·exact .inl h0
   ·exact .inr (i2.pend (List.mem_append_left _ hm) h0))
  have hto2:b0K G2 0 to_:=v0Q b2 hto (by
   by_cases h0:to_=0
   ·exact .inl h0
   ·exact .inr (i2'.pend (List.mem_cons_of_mem _ (List.mem_cons_self ..)) h0))
  have hrest:=(s0N hat).2
  rcases ih (at_:=(b0X (l+1) at_).2) i2' t2.idx (live2 _ (g0I hsl)) hto2 (by omega) hrest (hr2.le (by omega)) (by simp;rw[List.length_eraseIdx];split<;>omega)with ⟨r,s3,G3,e3,i3,t3,k3,c3⟩|hf
  ·have hr3:d0O 3 s3:=hr2.go t3.rel
   have i3':Inv s3 G3 ((c0B G root).set (b0X (l+1) at_).1 r++P):=i3.perm fun x hx=>by
    rw[r0H,List.count_append,List.count_append,y0W hsl];omega
   have live3: ∀k∈(c0B G root).eraseIdx (b0X (l+1) at_).1,k=0∨(a0H k G3).isSome=true:=fun k hm=>by
    by_cases h0:k=0
    ·exact .inl h0
    ·exact .inr (i3.pend (List.mem_cons_of_mem _ (List.mem_append_left _ hm)) h0)
   have hks: ∀k∈(c0B G root).set (b0X (l+1) at_).1 r,b0K G3 (l+1) k:=fun k hm=>by
    rcases y1N hsl hm with rfl|h1
    ·exact k3
    ·exact i2.kidSame t3.old (live2 _ (d1A h1)) (live3 _ h1)
   have eset:Go.Sb.h0V (l+1) root at_ to_ s=(if(c0B G root).set (b0X (l+1) at_).1 r=f0B then ret 0 else a0B (Go.Sb.g0P (l+1) ((c0B G root).set (b0X (l+1) at_).1 r)) fun ss=>e0S (i0R (l+1) {kids:=(c0B G root).set (b0X (l+1) at_).1 r,sum:=f0X (l+1) ss}):M Int) s3:=by
    conv=>lhs;unfold Go.Sb.h0V
    rw[a0A e0]
    simp only
    rw[a0A e1,a0A (show t0Q root (l+1) s1=_ from e2),a0A e3]
   have t123:=(t1.trans t2).trans t3
   rcases Inv.renew (l+1) i3' t3.idx hl (by simp[hk8.1]) hks hr3 with ⟨r',s4,G4,e4,i4,t4,k4,q4,sup4⟩|hf
   ·refine .inl ⟨r',s4,G4,by rw[eset,e4],i4,(t123.trans t4).mono (by simp only[f0U];omega) (by omega),k4,fun j hj=> ?_⟩
    have hjs:=s0N hj
    have old24: ∀b o,a0H b G4=some o→a0H b G2=some o∨j0L s2 b:=(t3.trans t4).old
    have old14: ∀b o,a0H b G4=some o→a0H b G=some o∨j0L s b:=(t123.trans t4).old
    conv=>lhs;unfold c0Z
    rw[q4,s1Z hsl]
    have hse:=y1O (l:=l+1) hj hat
    by_cases e1:(b0X (l+1) j).1=(b0X (l+1) at_).1
    ·rw[if_pos e1]
     have m3:=i3.mapSame i4 t4.old l k3 (j1N sup4 k3) (b0X (l+1) j).2
     rw[m3.1,c3 _ hjs.2]
     by_cases e:j=at_
     ·rw[if_pos e,if_pos (by rw[e])]
     ·rw[if_neg e,if_neg (fun e2=>e (hse.1 ⟨e1,e2⟩))]
      have m2:=h.mapSame i2 (fun b o hb=> .inl (b2 b o hb)) l (hk8.2 _ (g0I hsl)) (j0Q (live2 _ (g0I hsl))) (b0X (l+1) j).2
      rw[m2.1]
      conv=>rhs;unfold c0Z
      rw[e1]
    ·rw[if_neg e1,if_neg (fun e=>e1 (by rw[e]))]
     have hsj:(b0X (l+1) j).1<(c0B G root).length:=by rw[hk8.1];exact p0E (l+1) j
     have hm:(c0B G root).getD (b0X (l+1) j).1 0∈(c0B G root).eraseIdx (b0X (l+1) at_).1:=by
      rw[List.mem_eraseIdx_iff_getElem?]
      exact⟨(b0X (l+1) j).1,e1,by rw[List.getD_eq_getElem?_getD,List.getElem?_eq_getElem hsj];rfl⟩
     have hk3:=i2.kidSame t3.old (live2 _ (d1A hm)) (live3 _ hm)
     have m:=h.mapSame i4 old14 l (hk8.2 _ (g0I hsj)) (j1N sup4 hk3) (b0X (l+1) j).2
     rw[m.1]
     conv=>rhs;unfold c0Z
   ·obtain⟨e,s',h1,h2⟩:=hf
    refine .inr ⟨e,s',by rw[eset,h1],h2.imp (fun⟨a,b⟩=>⟨a,?_⟩) id⟩
    have:=t123.rel.room;have:=t123.keep;omega
  ·obtain⟨e,s',h1,h2⟩:=hf
   have t12:=t1.trans t2
   refine .inr ⟨e,s',?_,h2.imp (fun⟨a,b⟩=>⟨a,?_⟩) id⟩
   ·conv=>lhs;unfold Go.Sb.h0V
    rw[a0A e0]
    simp only
    rw[a0A e1,a0A (show t0Q root (l+1) s1=_ from e2),a0Q h1]
   ·have:=t12.rel.room;have:=t12.keep;omega
end
end
section
def b0D (G:Gh) (root:Int) (j:Nat):B:=if j<512 then e0B G (c0Z G 2 root j)else a0T 256
section
variable {s:St} {G:Gh} {P:List Int}
theorem Inv.leaf_len (h:Inv s G P) {a:Int} (_:b0K G 0 a):(e0B G a).length=256:=by
 unfold e0B
 split
 ·rename_i d ats ho;exact(h.typ a _ ho).1
 ·exact i0U 256
theorem Inv.map_len (h:Inv s G P) {root:Int} (hr:b0K G 3 root) (j:Nat):(b0D G root j).length=256:=by
 unfold b0D;split
 ·exact h.leaf_len (h.leafKid 2 hr j)
 ·exact i0U 256
theorem Inv.mapKeep (h:Inv s G P) {s':St} {G':Gh} {P':List Int} (h':Inv s' G' P') (old: ∀b o,a0H b G'=some o→a0H b G=some o∨j0L s b) {root:Int} (hk:b0K G 3 root) (hl:root=0∨(a0H root G').isSome=true):b0D G' root=b0D G root:=by
 funext j
 unfold b0D
 split
 ·have m:=h.mapSame h' old 2 hk hl j
  rw[m.1];exact h.leafSame old h'.zero m.2.1 m.2.2
 ·rfl
theorem Inv.mset {root to_:Int} {at_:Nat} (h:Inv s G (root::to_::P)) (hi:Idx s G) (hroot:b0K G 3 root) (hto:b0K G 0 to_) (hat:at_<512) (hr:d0O (f0U 2) s) (hP:P.length≤800000):
 (∃r s' G',l0J root at_ to_ s=(.ok r,s')∧Inv s' G' (r::P)∧Stp (f0U 2) 3 s G s' G'∧b0K G' 3 r∧ ∀j,j<512→c0Z G' 2 r j=if j=at_ then to_ else c0Z G 2 root j)∨Fl 3 False (l0J root at_ to_) s:=by
 unfold Go.Sb.l0J
 rw[show(a0B (Go.Sb.k0I 2 root at_) fun x=>if x=to_ then a0B (Go.Sb.g0A to_) fun _=>ret root else Go.Sb.h0V 2 root at_ to_:M Int) s=(if c0Z G 2 root at_=to_ then a0B (Go.Sb.g0A to_) fun _=>ret root else Go.Sb.h0V 2 root at_ to_:M Int) s from a0A (h.rget 2 hroot at_)]
 have efl:Fl 3 False (if c0Z G 2 root at_=to_ then a0B (Go.Sb.g0A to_) fun _=>ret root else Go.Sb.h0V 2 root at_ to_:M Int) s→Fl 3 False (a0B (Go.Sb.k0I 2 root at_) fun x=>if x=to_ then a0B (Go.Sb.g0A to_) fun _=>ret root else Go.Sb.h0V 2 root at_ to_:M Int) s:=by
  rintro⟨e,s',h1,h2⟩
  exact⟨e,s',by rw[a0A (h.rget 2 hroot at_)];exact h1,h2⟩
 by_cases he:c0Z G 2 root at_=to_
 ·rw[if_pos he]
  have h':Inv s G (to_::root::P):=h.perm fun x hx=>by simp only[List.count_cons];omega
  obtain⟨s1,G1,e1,i1,t1,b1⟩:=h'.xless hi hto (hr.le (by decide)) (by simp;omega)
  have hk1:b0K G1 3 root:=v0Q b1 hroot (if h0:root=0 then .inl h0 else .inr (i1.pend (List.mem_cons_self ..) h0))
  refine .inl ⟨root,s1,G1,by rw[a0A e1];rfl,i1,t1.mono (by decide) (by omega),hk1,fun j hj=> ?_⟩
  rw[(h.mapSame i1 (fun b o hb=> .inl (b1 b o hb)) 2 hroot (j0Q hk1) j).1]
  split
  ·rename_i e;rw[e,he]
  ·rfl
 ·rw[if_neg he]
  rcases Inv.rset 2 h hi hroot hto (by omega) hat hr (by omega)with h1|h1
  ·exact .inl h1
  ·exact .inr (efl (by rw[if_neg he];exact h1))
def upd (m:Nat→B) (i:Nat) (d:B):Nat→B:=fun j=>if j=i then d else m j
theorem Inv.cset {x:Ent} {i:Nat} {data:B} (h:Inv s G (x.root::P)) (hi:Idx s G) (hroot:b0K G 3 x.root) (hat:i<512) (hd:data.length=256) (hr:d0O (16+f0U 2) s) (hP:P.length≤700000):
 (∃r s' G',q0S x i data s=(.ok {x with root:=r},s')∧Inv s' G' (r::P)∧Stp (16+f0U 2) 8 s G s' G'∧b0K G' 3 r∧b0D G' r=upd (b0D G x.root) i data∧(b0B data=false→ ¬e1G G s.bits data))∨
 Fl 8 (b0B data=false∧e1G G s.bits data) (q0S x i data) s:=by
 unfold Go.Sb.q0S
 rcases h.xput hi hd (hr.le (by omega)) (by simp;omega)with ⟨a,s1,G1,e1,i1,t1,k1,l1,c1⟩|hf
 ·have i1':Inv s1 G1 (x.root::a::P):=i1.perm fun y hy=>by simp only[List.count_cons];omega
  have hk1:b0K G1 3 x.root:=h.kidSame t1.old hroot (if h0:x.root=0 then .inl h0 else .inr (i1'.pend (List.mem_cons_self ..) h0))
  rcases i1'.mset t1.idx hk1 k1 hat (hr.go t1.rel) (by omega)with ⟨r,s2,G2,e2,i2,t2,k2,c2⟩|hf
  ·refine .inl ⟨r,s2,G2,by rw[a0A e1,a0A e2];rfl,i2,t1.trans t2,k2,?_,c1⟩
   funext j
   by_cases hj:j<512
   case neg=>unfold upd b0D;rw[if_neg hj,if_neg hj,if_neg (by omega)]
   have hl:=c2 j hj
   have hk:=j0Q (i2.leafKid 2 k2 j)
   unfold upd b0D
   rw[if_pos hj,if_pos hj]
   rw[hl]at hk ⊢
   by_cases e:j=i
   ·rw[if_pos e]at hk ⊢
    rw[if_pos e,i1.leafSame t2.old i2.zero k1 hk,l1]
   ·rw[if_neg e]at hk ⊢
    rw[if_neg e]
    have m:=h.mapSame i1 t1.old 2 hroot (j0Q hk1) j
    rw[m.1]at hk ⊢
    exact h.leafSame (t1.trans t2).old i2.zero m.2.1 hk
  ·exact .inr (Fl.there e1 t1.rel t1.keep (hf.here (Nat.le_refl _) False.elim) (by omega) id)
 ·exact .inr (hf.here (by omega) id)
theorem h0H {a:Int} : ∀ {G:Gh},p0W G a≠0→ ∃p∈G,a∈g0Y p.2
 | [],h=>by simp[p0W]at h
 | (b,o)::G,h=>by
  rw[p0D]at h
  by_cases e:(g0Y o).count a=0
  ·obtain⟨p,hp,hk⟩:=h0H (a:=a) (G:=G) (by omega)
   exact⟨p,List.mem_cons_of_mem _ hp,hk⟩
  ·exact⟨(b,o),List.mem_cons_self ..,List.count_pos_iff.1 (Nat.pos_of_ne_zero e)⟩
theorem Inv.wants (h:Inv s G P) {a:Int} {o:Ob} (ho:a0H a G=some o):a∈P∨ ∃b u,a0H b G=some u∧a∈g0Y u:=by
 have:=h.need_pos ho
 unfold f0Y at this
 by_cases e:P.count a=0
 ·obtain⟨⟨b,u⟩,hp,hk⟩:=h0H (a:=a) (G:=G) (by omega)
  exact .inr ⟨b,u,(g0X h.nod).2 hp,hk⟩
 ·exact .inl (List.count_pos_iff.1 (by omega))
theorem Inv.above (h:Inv s G P) {a:Int} {o:Ob} (ho:a0H a G=some o) (hnp: ∀b,o≠ .part b):a∈P∨ ∃b l ks sm,a0H b G=some (.node l ks sm)∧a∈ks∧b0K G l a∧l<3:=by
 rcases h.wants ho with h1| ⟨b,u,hb,hk⟩
 ·exact .inl h1
 ·have hok:=h.typ b u hb
  cases u with
  |part b=>cases hk
  |ext d ats=>
   rcases c1Z hok a hk with rfl| ⟨b',hb'⟩
   ·exact(h.ne0 ho rfl).elim
   ·rw[ho]at hb';cases hb';exact(hnp b' rfl).elim
  |node l ks sm=>exact .inr ⟨b,l,ks,sm,hb,hk,hok.2.2.2.1 a hk,hok.1⟩
theorem g1Q {l:List Int} {x:Int} (h:x∈l): ∃k,k<l.length∧l.getD k 0=x:=by
 obtain⟨k,hk,rfl⟩:=List.getElem_of_mem h
 exact⟨k,hk,by rw[List.getD_eq_getElem?_getD,List.getElem?_eq_getElem hk];rfl⟩
theorem Inv.reach (h:Inv s G P) (hP: ∀r∈P,b0K G 3 r) {a:Int} {d:B} {ats:List Int} (ho:a0H a G=some (.ext d ats)): ∃r∈P,∃j,j<512∧c0Z G 2 r j=a:=by
 have notP: ∀ {b:Int} {u:Ob},a0H b G=some u→(∀ks sm,u≠ .node 2 ks sm)→b ∉ P:=fun hb hn hm=>by
  rcases hP _ hm with h0| ⟨ks,sm,e⟩
  ·exact h.ne0 hb h0
  ·rw[hb]at e;cases e;exact hn _ _ rfl
 rcases h.above ho (fun _ e=>by cases e)with h1| ⟨b0,l0,ks0,sm0,hb0,hm0,hk0,_⟩
 ·exact(notP ho (fun _ _ e=>by cases e) h1).elim
 have hl0:l0=0:=by
  cases l0 with
  |zero=>rfl
  |succ l=>
   rcases hk0 with h0| ⟨_,_,e⟩
   ·exact(h.ne0 ho h0).elim
   ·rw[ho]at e;cases e
 subst hl0
 rcases h.above hb0 (fun _ e=>by cases e)with h1| ⟨b1,l1,ks1,sm1,hb1,hm1,hk1,_⟩
 ·exact(notP hb0 (fun _ _ e=>by cases e) h1).elim
 have hl1:l1=1:=by
  cases l1 with
  |zero=>
   rcases hk1 with h0| ⟨_,_,e⟩
   ·exact(h.ne0 hb0 h0).elim
   ·rw[hb0]at e;cases e
  |succ l=>
   rcases hk1 with h0| ⟨_,_,e⟩
   ·exact(h.ne0 hb0 h0).elim
   ·rw[hb0]at e;cases e;rfl
 subst hl1
 rcases h.above hb1 (fun _ e=>by cases e)with h1| ⟨b2,l2,ks2,sm2,hb2,hm2,hk2,_⟩
 ·exact(notP hb1 (fun _ _ e=>by cases e) h1).elim
 have hl2:l2=2:=by
  cases l2 with
  |zero=>
   rcases hk2 with h0| ⟨_,_,e⟩
   ·exact(h.ne0 hb1 h0).elim
   ·rw[hb1]at e;cases e
  |succ l=>
   rcases hk2 with h0| ⟨_,_,e⟩
   ·exact(h.ne0 hb1 h0).elim
   ·rw[hb1]at e;cases e;rfl
 subst hl2
 rcases h.above hb2 (fun _ e=>by cases e)with h1| ⟨b3,l3,ks3,sm3,hb3,hm3,hk3,hl3⟩
 ·obtain⟨k0,hk0,e0⟩:=g1Q hm0
  obtain⟨k1,hk1,e1⟩:=g1Q hm1
  obtain⟨k2,hk2,e2⟩:=g1Q hm2
  have t0:=(h.typ _ _ hb0).2.1
  have t1:=(h.typ _ _ hb1).2.1
  have t2:=(h.typ _ _ hb2).2.1
  refine⟨b2,h1,k2*64+k1*8+k0,by omega,?_⟩
  have s2:b0X 2 (k2*64+k1*8+k0)=(k2,k1*8+k0):=by simp only[b0X,Nat.reducePow,Prod.mk.injEq];omega
  have s1:b0X 1 (k1*8+k0)=(k1,k0):=by simp only[b0X,Nat.reducePow,Prod.mk.injEq];omega
  have s0:b0X 0 k0=(k0,0):=by simp only[b0X,Nat.reducePow,Prod.mk.injEq];omega
  have q: ∀ {b:Int} {l:Nat} {ks:List Int} {sm:B},a0H b G=some (.node l ks sm)→c0B G b=ks:=fun hb=>by unfold c0B;rw[hb]
  simp only[c0Z,s2,s1,s0,q hb2,q hb1,q hb0,e2,e1,e0]
 ·have:l3=3:=by
   cases l3 with
   |zero=>
    rcases hk3 with h0| ⟨_,_,e⟩
    ·exact(h.ne0 hb2 h0).elim
    ·rw[hb2]at e;cases e
   |succ l=>
    rcases hk3 with h0| ⟨_,_,e⟩
    ·exact(h.ne0 hb2 h0).elim
    ·rw[hb2]at e;cases e;rfl
  omega
def w0S (Ms:List (Nat→B)) (bits:Nat) (data:B):Prop:= ∃m∈Ms,∃j,j<512∧b0B (m j)=false∧m j≠data∧key bits (Sha.sum (m j))=key bits (Sha.sum data)
theorem Inv.clash (h:Inv s G P) (hP: ∀r∈P,b0K G 3 r) (bits:Nat) (data:B):e1G G bits data↔w0S (P.map (b0D G)) bits data:=by
 constructor
 ·rintro⟨a,d,ats,ho,hne,hk⟩
  obtain⟨r,hr,j,hj,e⟩:=h.reach hP ho
  have hm:b0D G r j=d:=by unfold b0D e0B;rw[if_pos hj,e,ho]
  exact⟨b0D G r,List.mem_map.2 ⟨r,hr,rfl⟩,j,hj,by rw[hm];exact(h.typ _ _ ho).2.1,by rw[hm];exact hne,by rw[hm];exact hk⟩
 ·rintro⟨m,hm,j,hj,hz,hne,hk⟩
  obtain⟨r,hr,rfl⟩:=List.mem_map.1 hm
  rcases h.leafKid 2 (hP r hr) j with h0| ⟨d,ats,ho⟩
  ·unfold b0D e0B at hz
   rw[h0,h.zero]at hz
   simp[e0P]at hz
  ·have hm:b0D G r j=d:=by unfold b0D e0B;rw[if_pos hj,ho]
   rw[hm]at hne hk
   exact⟨_,d,ats,ho,hne,hk⟩
end
end
end Go.Sb

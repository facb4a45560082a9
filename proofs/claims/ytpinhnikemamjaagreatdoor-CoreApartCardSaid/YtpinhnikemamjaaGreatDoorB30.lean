/- Part of the proof; no statement of its own. -/
import Derived.Test.YtpinhnikemamjaaGreatDoorB29
import Derived.Test.YtpinhnikemamjaaGreatDoorB20
import Derived.Test.YtpinhnikemamjaaGreatDoorB21
import Derived.KernelRfl
import Derived.Test.YtpinhnikemamjaaGreatDoorB16
set_option linter.all false
set_option maxRecDepth 4000
set_option maxHeartbeats 4000000
namespace Go.Sb
section
def s0O (was data:B) (f n:Nat):B:=was.take f++data.take n++was.drop (f+n)
def j0R:Nat→(Nat→B)→Nat→B→(Nat→B)
 |0,m,_,_=>m
 |k+1,m,at_,data=>if data= []then m else
  j0R k (upd m (at_/4) (s0O (m (at_/4)) data (at_%4*64) (min data.length (256-at_%4*64)))) (at_+min data.length (256-at_%4*64)/64) (data.drop (min data.length (256-at_%4*64)))
def i0Z (bits:Nat) (Os:List (Nat→B)):Nat→(Nat→B)→Nat→B→Prop
 |0,_,_,_=>False
 |k+1,m,at_,data=>data≠ []∧
  ((b0B (s0O (m (at_/4)) data (at_%4*64) (min data.length (256-at_%4*64)))=false∧w0S (m::Os) bits (s0O (m (at_/4)) data (at_%4*64) (min data.length (256-at_%4*64))))∨
   i0Z bits Os k (upd m (at_/4) (s0O (m (at_/4)) data (at_%4*64) (min data.length (256-at_%4*64)))) (at_+min data.length (256-at_%4*64)/64) (data.drop (min data.length (256-at_%4*64))))
section
variable {s:St} {G:Gh} {P:List Int}
theorem Inv.cget {x:Ent} {i:Nat} (h:Inv s G P) (hroot:b0K G 3 x.root) (hi:i<512):o0H x i s=(.ok (b0D G x.root i),s):=by
 unfold Go.Sb.o0H
 rw[a0A (h.rget 2 hroot i),h.leaf (h.leafKid 2 hroot i)]
 unfold b0D;rw[if_pos hi]
theorem t1A {was data:B} {f n:Nat} (hw:was.length=256) (hn:n≤data.length) (hf:f+n≤256):(s0O was data f n).length=256:=by
 unfold s0O;simp;omega
theorem Inv.patch (l0W:Nat) (hC:16+f0U 2=l0W): ∀(n:Nat) (m:Nat) {s:St} {G:Gh} {P:List Int} {x:Ent} {at_:Nat} {data:B},Inv s G (x.root::P)→Idx s G→b0K G 3 x.root→(∀p∈P,b0K G 3 p)→data.length≤64*m→data.length%64=0→at_*64+data.length≤131072→d0O (m*l0W) s→P.length≤1000→
 (∃r s' G',j0C n x at_ data s=(.ok {x with root:=r},s')∧Inv s' G' (r::P)∧Stp (m*l0W) (m*8) s G s' G'∧b0K G' 3 r∧(∀p∈P,b0K G' 3 p∧b0D G' p=b0D G p)∧
  b0D G' r=j0R n (b0D G x.root) at_ data∧ ¬i0Z s.bits (P.map (b0D G)) n (b0D G x.root) at_ data)∨
 Fl (m*8) (i0Z s.bits (P.map (b0D G)) n (b0D G x.root) at_ data) (j0C n x at_ data) s
 |0,m,s,G,P,x,at_,data,h,hi,hroot,hP,_,_,_,_,_=>
  .inl ⟨x.root,s,G,rfl,h,(Stp.refl h hi).mono (by omega) (by omega),hroot,fun p hp=>⟨hP p hp,rfl⟩,rfl,id⟩
 |n+1,m,s,G,P,x,at_,data,h,hi,hroot,hP,hm,h64,hat,hr,hPl=>by
  by_cases h0:data= []
  ·refine .inl ⟨x.root,s,G,?_,h,(Stp.refl h hi).mono (by omega) (by omega),hroot,fun p hp=>⟨hP p hp,rfl⟩,?_,fun hh=>hh.1 h0⟩
   ·unfold Go.Sb.j0C;rw[if_pos h0];rfl
   ·unfold j0R;rw[if_pos h0]
  ·have hl:data.length≠0:=fun e=>h0 (List.eq_nil_of_length_eq_zero e)
   obtain⟨m,rfl⟩: ∃m',m=m'+1:=⟨m-1,by omega⟩
   have hr':d0O (l0W+m*l0W) s:=hr.le (by rw[Nat.succ_mul];omega)
   have hi512:at_/4<512:=by omega
   have e1:=h.cget hroot hi512
   have hwl:=h.map_len hroot (at_/4)
   have hnow:(s0O (b0D G x.root (at_/4)) data (at_%4*64) (min data.length (256-at_%4*64))).length=256:=t1A hwl (by omega) (by omega)
   have hPall: ∀r∈x.root::P,b0K G 3 r:=fun r hr=>by
    rcases List.mem_cons.1 hr with rfl|h1
    ·exact hroot
    ·exact hP r h1
   have hcl:=h.clash hPall s.bits (s0O (b0D G x.root (at_/4)) data (at_%4*64) (min data.length (256-at_%4*64)))
   rcases h.cset (x:=x) (i:=at_/4) hi hroot hi512 hnow (hr'.le (by omega)) (by omega)with ⟨r1,s1,G1,e2,i1,t1,k1,q1,c1⟩|hf
   ·have hP1: ∀p∈P,b0K G1 3 p∧b0D G1 p=b0D G p:=fun p hp=>by
     have hl:p=0∨(a0H p G1).isSome=true:=if h0:p=0 then .inl h0 else .inr (i1.pend (List.mem_cons_of_mem _ hp) h0)
     exact⟨h.kidSame t1.old (hP p hp) hl,h.mapKeep i1 t1.old (hP p hp) hl⟩
    have hmap:P.map (b0D G1)=P.map (b0D G):=List.map_congr_left fun p hp=>(hP1 p hp).2
    have hmlen:(data.drop (min data.length (256-at_%4*64))).length≤64*m:=by simp;omega
    have hmod:(data.drop (min data.length (256-at_%4*64))).length%64=0:=by simp;omega
    have hat':(at_+min data.length (256-at_%4*64)/64)*64+(data.drop (min data.length (256-at_%4*64))).length≤131072:=by simp;omega
    have hrec:=Inv.patch l0W hC n m (x:= {x with root:=r1}) (at_:=at_+min data.length (256-at_%4*64)/64) (data:=data.drop (min data.length (256-at_%4*64))) i1 t1.idx k1 (fun p hp=>(hP1 p hp).1) hmlen hmod hat' (hr'.go (t1.rel.mono (by omega) (Nat.le_refl _))) hPl
    rw[hmap,show s1.bits=s.bits from t1.rel.bits]at hrec
    simp only[q1]at hrec
    have ep:Go.Sb.j0C (n+1) x at_ data s=Go.Sb.j0C n {x with root:=r1} (at_+min data.length (256-at_%4*64)/64) (data.drop (min data.length (256-at_%4*64))) s1:=by
     conv=>lhs;unfold Go.Sb.j0C
     rw[if_neg h0]
     rw[a0A e1]
     exact a0A e2
    rcases hrec with ⟨r2,s2,G2,e3,i2,t2,k2,p2,q2,n2⟩|hf
    ·refine .inl ⟨r2,s2,G2,by rw[ep,e3],i2,(t1.trans t2).mono (by rw[Nat.succ_mul];omega) (by rw[Nat.succ_mul];omega),k2,fun p hp=>⟨(p2 p hp).1,(p2 p hp).2.trans (hP1 p hp).2⟩,?_,?_⟩
     ·rw[q2];conv=>rhs;unfold j0R
      rw[if_neg h0]
     ·rintro⟨_,⟨hz,hc⟩|hn⟩
      ·exact c1 hz (hcl.2 hc)
      ·exact n2 hn
    ·obtain⟨e,s',h1,h2⟩:=hf
     refine .inr ⟨e,s',by rw[ep,h1],h2.imp (fun⟨a,b⟩=>⟨a,?_⟩) (fun⟨a,b⟩=>⟨a,h0,.inr b⟩)⟩
     have:=t1.rel.room;have:=t1.keep;rw[Nat.succ_mul];omega
   ·obtain⟨e,s',h1,h2⟩:=hf
    refine .inr ⟨e,s',?_,h2.imp (fun⟨a,b⟩=>⟨a,by rw[Nat.succ_mul];omega⟩) (fun⟨a,hz,hc⟩=>⟨a,h0,.inl ⟨hz,hcl.1 hc⟩⟩)⟩
    conv=>lhs;unfold Go.Sb.j0C
    rw[if_neg h0]
    rw[a0A e1]
    exact a0Q h1
def a1Q (m:Nat→B):Nat→Nat→Nat→B
 |0,_,_=> []
 |k+1,at_,n=>if n=0 then []else((m (at_/4)).drop (at_%4*64)).take (min n (4-at_%4)*64)++a1Q m k (at_+min n (4-at_%4)) (n-min n (4-at_%4))
theorem Inv.creads {x:Ent} (h:Inv s G P) (hroot:b0K G 3 x.root): ∀(k at_ n:Nat),at_+n≤2048→j0J k x at_ n s=(.ok (a1Q (b0D G x.root) k at_ n),s)
 |0,_,_,_=>rfl
 |k+1,at_,n,hn=>by
  unfold Go.Sb.j0J a1Q
  by_cases h0:n=0
  ·rw[if_pos h0,if_pos h0];rfl
  ·rw[if_neg h0,if_neg h0]
   rw[a0A (h.cget hroot (by omega)),a0A (h.creads hroot k _ _ (by omega))];rfl
theorem Eqv.symm {s t:St} (h:Eqv s t):Eqv t s:=⟨h.fr.symm,h.g.symm,h.gone.symm,h.keep.symm,h.depth.symm,h.bits.symm,h.next.symm,h.epoch.symm,fun x=>(h.refs x).symm,fun x=>(h.young x).symm,fun x=>(h.index x).symm,fun x=>(h.vols x).symm⟩
theorem Inv.eqv (h:Inv s G P) {t:St} (q:Eqv t s) (hm:MOK t) (hrun:t.d.armed=false∧t.d.dead=false) (hlen:t.d.l.length=s.d.l.length) (hd: ∀a:Nat,j0L s a∨m0H t.d a=m0H s.d a):Inv t G P:=by
 refine⟨⟨hm,by rw[q.keep];exact h.u.keep,fun a ha=> ?_,hrun,by rw[hlen,q.fr,q.g];exact h.u.size,by rw[q.gone,q.fr,q.g];exact h.u.late⟩,h.nod,by rw[q.fr];exact h.lo,by rw[q.fr,q.g];exact h.hi,fun a ha=> ?_,h.live,h.zero,fun a=> ?_,fun a o ho=> ?_,h.typ,by rw[q.g];exact h.cnt⟩
 ·rw[q.fr,q.g];exact h.u.held a (by rw[←q.refs a];exact ha)
 ·rw[q.refs a];exact h.refs a ha
 ·rw[q.fr,q.g];exact h.held a
 ·rw[←h.disk a o ho]
  rcases hd a.toNat with h1|h1
  ·have hr:=h.range ho
   rw[show((a.toNat:Nat):Int)=a by omega]at h1
   rw[h.free_none h1]at ho;cases ho
  ·exact h1
theorem Idx.eqv (h:Idx s G) {t:St} (q:Eqv t s):Idx t G:=fun k a=>by rw[q.index k,q.bits];exact h k a
theorem Inv.undone (h:Inv s G P) (hi:Idx s G) (hlog:s.log= []) {t:St} {c k:Nat} (r:Rel c k s t):Inv (d0T s.log.length t) G P∧Idx (d0T s.log.length t) G∧Eqv (d0T s.log.length t) s∧(d0T s.log.length t).log= []:=by
 obtain⟨l,e,n,q⟩:=r.log
 rw[hlog,List.nil_append]at e
 have e1:d0T s.log.length t= {e0R t l with log:= []} :=by
  unfold d0T;rw[hlog,e];rfl
 rw[e1]
 have q':Eqv {e0R t l with log:= []} s:=⟨q.fr,q.g,q.gone,q.keep,q.depth,q.bits,q.next,q.epoch,q.refs,q.young,q.index,q.vols⟩
 have hd:=(v0I t l).1
 have hm:=u0B r.ok.m l
 refine⟨h.eqv q' ⟨hm.refs,hm.young,hm.index,hm.vols⟩ ?_ ?_ ?_,hi.eqv q',q',rfl⟩
 ·show(e0R t l).d.armed=false∧(e0R t l).d.dead=false
  rw[hd];exact r.ok.run
 ·show(e0R t l).d.l.length=_
  rw[hd,r.ok.size,h.u.size,r.fr,r.glen]
 ·intro a
  show j0L s a∨m0H (e0R t l).d a=_
  rw[hd];exact r.disk a
end
end
section
theorem d1B (fr:Nat): ∀(l:List Int) (g:List Nat),l.Nodup→(∀a∈l,isB fr g a 2=true)→
 (l.foldl (fun g a=>mvL fr (mvL fr g a 2 1) a 1 0) g).length=g.length∧(∀x,isB fr (l.foldl (fun g a=>mvL fr (mvL fr g a 2 1) a 1 0) g) x 1=isB fr g x 1)∧
 (l.foldl (fun g a=>mvL fr (mvL fr g a 2 1) a 1 0) g).count 1=g.count 1∧g.count 0≤(l.foldl (fun g a=>mvL fr (mvL fr g a 2 1) a 1 0) g).count 0
 | [],g,_,_=>⟨rfl,fun _=>rfl,rfl,Nat.le_refl _⟩
 |a::l,g,hn,h2=>by
  rw[List.nodup_cons]at hn
  have ha:=h2 a (List.mem_cons_self ..)
  have hb1: ∀b x,isB fr (mvL fr g a 2 1) b x=if b=a then decide (1=x)else isB fr g b x:=fun b x=>m0C ha
  have ha1:isB fr (mvL fr g a 2 1) a 1=true:=by rw[hb1,if_pos rfl];rfl
  have hb2: ∀b x,isB fr (mvL fr (mvL fr g a 2 1) a 1 0) b x=if b=a then decide (0=x)else isB fr (mvL fr g a 2 1) b x:=fun b x=>m0C ha1
  have hc1:=fun x=>r0O (x:=x) (w:=1) ha
  have hc2:=fun x=>r0O (x:=x) (w:=0) ha1
  obtain⟨i1,i2,i3,i4⟩:=d1B fr l (mvL fr (mvL fr g a 2 1) a 1 0) hn.2 (fun b hb=>by
   have hne:b≠a:=fun e=>hn.1 (e▸hb)
   rw[hb2,if_neg hne,hb1,if_neg hne];exact h2 b (List.mem_cons_of_mem _ hb))
  rw[List.foldl_cons]
  refine⟨by rw[i1,m0Y,m0Y],fun x=> ?_,?_,?_⟩
  ·rw[i2,hb2]
   split
   ·rename_i e
    subst e
    cases hx:isB fr g x 1 with
    |false=>rfl
    |true=>exact absurd (y0N hx ha) (by decide)
   ·rename_i e;rw[hb1,if_neg e]
  ·rw[i3];have:=hc1 1;have:=hc2 1;simp at*;omega
  ·have:=hc1 0;have:=hc2 0;simp at*;omega
def fin (t:St):St:=s0U {t with depth:=0,log:= []}
section
variable {s t:St} {G:Gh} {P:List Int}
theorem Inv.other (h:Inv s G P) (hfr:t.fr=s.fr) (hg:t.g=s.g) (hr:t.refs=s.refs) (hd:t.d=s.d) (hgo:t.gone=s.gone) (hm:MOK t) (hk:0≤t.keep):Inv t G P:=by
 refine⟨⟨hm,hk,fun a ha=> ?_,by rw[hd];exact h.u.run,by rw[hd,hfr,hg];exact h.u.size,by rw[hgo,hfr,hg];exact h.u.late⟩,h.nod,by rw[hfr];exact h.lo,by rw[hfr,hg];exact h.hi,fun a ha=>by rw[hr];exact h.refs a ha,h.live,h.zero,fun a=>by rw[hfr,hg];exact h.held a,
  fun a o ho=>by rw[hd];exact h.disk a o ho,h.typ,by rw[hg];exact h.cnt⟩
 rw[hfr,hg];exact h.u.held a (by rw[←hr];exact ha)
theorem Inv.fin (h:Inv t G P):Inv (fin t) G P:=by
 obtain⟨f1,f2,f3,f4⟩:=d1B t.fr t.gone t.g h.u.late.1 h.u.late.2
 refine⟨⟨⟨h.u.m.refs,h.u.m.young,h.u.m.index,h.u.m.vols⟩,h.u.keep,fun a ha=> ?_,h.u.run,?_,⟨List.nodup_nil,by intro a ha;cases ha⟩⟩,h.nod,h.lo,?_,h.refs,h.live,h.zero,fun a=> ?_,h.disk,h.typ,?_⟩
 ·exact(f2 a).trans (h.u.held a ha)
 ·show t.d.l.length=t.fr+_;rw[h.u.size];exact congrArg _ f1.symm
 ·show t.fr+_≤65535;have:=h.hi;exact(congrArg (t.fr+ ·) f1)▸this
 ·refine Iff.trans ?_ (h.held a);rw[←f2 a];rfl
 ·exact h.cnt.trans f3.symm
theorem w0T (h:Inv t G P):b0U t≤b0U (fin t):=(d1B t.fr t.gone t.g h.u.late.1 h.u.late.2).2.2.2
theorem h2C (h1:s.depth=0) (h2:s.log= []) (h3:s.gone= []):fin {s with depth:=1} =s:=by
 obtain⟨d,fr,g,refs,young,gone,keep,log,depth,bits,index,vols,next,epoch⟩:=s
 simp only at h1 h2 h3
 subst h1 h2 h3
 rfl
def j0A (s:St):List Int:=s.vols.map (·.2.root)
structure CI (s:St) (G:Gh):Prop where
 inv:Inv s G (j0A s)
 idx:Idx s G
 kid: ∀p∈s.vols,b0K G 3 p.2.root
 ids: ∀p∈s.vols,p.2.id=p.1∧1≤p.2.size∧p.2.size≤2048
 dep:s.depth=0
 log:s.log= []
 gone:s.gone= []
 few:s.vols.length≤16
theorem CI.fin {t:St} (h:Inv t G (j0A t)) (hi:Idx t G) (hk: ∀p∈t.vols,b0K G 3 p.2.root) (hids: ∀p∈t.vols,p.2.id=p.1∧1≤p.2.size∧p.2.size≤2048) (hf:t.vols.length≤16):CI (fin t) G:=
 ⟨h.fin,hi,hk,hids,rfl,rfl,rfl,hf⟩
def start (s:St) (more:Nat):St:= {s with depth:=1,log:= [.keep s.keep],keep:=(2*(s.vols.length+more):Nat)}
theorem CI.start (h:CI s G) (more:Nat):Inv (start s more) G (j0A s)∧Idx (start s more) G:=
 ⟨h.inv.other rfl rfl rfl rfl rfl ⟨h.inv.u.m.refs,h.inv.u.m.young,h.inv.u.m.index,h.inv.u.m.vols⟩ (by show 0≤((2*(s.vols.length+more):Nat):Int);omega),h.idx⟩
theorem CI.deep (h:CI s G):Inv {s with depth:=1} G (j0A s):=h.inv.other rfl rfl rfl rfl rfl ⟨h.inv.u.m.refs,h.inv.u.m.young,h.inv.u.m.index,h.inv.u.m.vols⟩ h.inv.u.keep
theorem CI.keepd (h:CI s G) (more:Nat):n0O (2*(s.vols.length+more:Nat)) {s with depth:=1} =(.ok (),Go.Sb.start s more):=by
 unfold n0O v0D a0B back
 simp only[h.log,List.length_nil]
 rw[if_neg (by omega)]
 simp only[bk,Nat.zero_lt_one,if_true,List.nil_append]
 unfold Go.Sb.start
 rw[show max (2*((s.vols.length+more:Nat):Int)) 0=((2*(s.vols.length+more):Nat):Int) by omega]
theorem CI.rel (h:CI s G) (more:Nat):Rel 1 0 {s with depth:=1} (Go.Sb.start s more):=by
 have:=k2A (2*(s.vols.length+more:Nat)) {s with depth:=1} Nat.zero_lt_one h.deep.u (by rw[h.keepd more];simp)
 rw[h.keepd more]at this;exact this
theorem CI.ahead (h:CI s G) {more:Nat} (hr:more=0∨2*(s.vols.length+more)≤b0U s):m0L more {s with depth:=1} =(.ok (),Go.Sb.start s more):=by
 unfold Go.Sb.m0L
 rw[a0A (h.keepd more)]
 rw[if_neg]
 rintro⟨h1,h2⟩
 have h3:b0U (Go.Sb.start s more)=b0U s:=rfl
 simp only at h2
 rw[h3]at h2
 omega
theorem CI.roomC (h:CI s G) {α:Type} {m:M α} {more:Nat} (hr:more=0∨2*(s.vols.length+more)≤b0U s):e0V more m {s with depth:=1} =m (Go.Sb.start s more):=a0A (h.ahead hr)
theorem f1D (h:CI s G) {c:Nat} (hc:c≤1000000) (more:Nat):d0O c (Go.Sb.start s more):=⟨Nat.zero_lt_one,by show 1+c+10<_;omega,by show s.gone.length+c+10<_;rw[h.gone];simp;omega⟩
theorem r0U {α:Type} {m:M α} (h:CI s G) {a:α} {c k:Nat} (e:m {s with depth:=1} =(.ok a,t)) (r:Rel c k {s with depth:=1} t):i0I m s=(.ok (0,.done a),fin t):=by
 have hd:t.depth=1:=r.depth
 have e1:n0H (g0C m) (s,.start)=(.ok 0,(j0Y t,.done a)):=by
  unfold n0H
  simp only
  rw[if_neg (by rw[h.dep];omega)]
  rw[show({s with depth:=s.depth+1} :St)= {s with depth:=1} by rw[h.dep]]
  unfold g0C
  simp only[e]
  rw[if_neg (by omega)]
 unfold i0I r1V n0T
 rw[a0A e1]
 simp only
 have hl:j0Y t= {t with depth:=0,log:= []} :=by unfold j0Y;rw[if_pos hd]
 rw[hl,if_pos rfl];rfl
theorem g1R {α:Type} {m:M α} (h:CI s G) {er:Int} {c k:Nat} (e:m {s with depth:=1} =(.err er,t)) (her:er≠0) (r:Rel c k {s with depth:=1} t):i0I m s=(.ok (er,.lost),fin (d0T 0 t)):=by
 have hd:t.depth=1:=r.depth
 have hdu:(d0T 0 t).depth=1:=by
  obtain⟨l,e1,n,q⟩:=r.log
  have hl:({s with depth:=1} :St).log= []:=h.log
  rw[hl,List.nil_append]at e1
  have:(e0R t l).depth=1:=q.depth
  unfold d0T
  rw[List.drop_zero,e1]
  exact this
 have e1:n0H (g0C m) (s,.start)=(.ok er,(j0Y (d0T 0 t),.lost)):=by
  unfold n0H
  simp only
  rw[if_neg (by rw[h.dep];omega)]
  rw[show({s with depth:=s.depth+1} :St)= {s with depth:=1} by rw[h.dep]]
  unfold g0C
  simp only[e]
  rw[if_neg (by rintro(h1|h1);(· omega);(· exact her h1)),h.log]
  rfl
 unfold i0I r1V n0T
 rw[a0A e1]
 simp only
 have hl:j0Y (d0T 0 t)= {d0T 0 t with depth:=0,log:= []} :=by unfold j0Y;rw[if_pos hdu]
 rw[hl,if_pos rfl];rfl
theorem CI.undone (h:CI s G) {c k:Nat} (r:Rel c k {s with depth:=1} t):CI (Go.Sb.fin (d0T 0 t)) G∧(Go.Sb.fin (d0T 0 t)).vols.Perm s.vols∧meq (Go.Sb.fin (d0T 0 t)).vols s.vols∧(Go.Sb.fin (d0T 0 t)).bits=s.bits∧(Go.Sb.fin (d0T 0 t)).next=s.next∧(Go.Sb.fin (d0T 0 t)).epoch=s.epoch∧b0U s≤b0U (Go.Sb.fin (d0T 0 t)):=by
 have hlog:({s with depth:=1} :St).log= []:=h.log
 obtain⟨i1,i2,q,_⟩:=h.deep.undone (show Idx {s with depth:=1} G from h.idx) hlog r
 rw[show({s with depth:=1} :St).log.length=0 by rw[hlog];rfl]at i1 i2 q
 have hp:(d0T 0 t).vols.Perm s.vols:=j2X i1.u.m.vols h.inv.u.m.vols q.vols
 have i1':Inv (d0T 0 t) G (j0A (d0T 0 t)):=i1.perm fun x _=>((hp.map (fun p:Int×Ent=>p.2.root)).count_eq x).symm
 refine⟨CI.fin i1' i2 (fun p hp'=>h.kid p (hp.mem_iff.1 hp')) (fun p hp'=>h.ids p (hp.mem_iff.1 hp')) (by rw[hp.length_eq];exact h.few),hp,q.vols,q.bits,q.next,q.epoch,?_⟩
 have h1:=w0T i1
 have h2:b0U (d0T 0 t)=b0U s:=by unfold b0U;rw[q.g]
 omega
end
end
section
theorem g1S {K V:Type} [DecidableEq K] {k:K} {v:V} : ∀ {m:List (K×V)},a0H k m=none→c0F k v m=m++ [(k,v)]
 | [],_=>rfl
 | (j,u)::m,h=>by
  unfold a0H at h
  split at h
  ·cases h
  ·rename_i e
   unfold c0F
   rw[if_neg e,g1S h];rfl
theorem g1T {K V:Type} [DecidableEq K] {k j:K} {v:V} : ∀ {m:List (K×V)},a0H k (m++ [(j,v)])=match a0H k m with|some u=>some u|none=>if j=k then some v else none
 | []=>rfl
 | (i,u)::m=>by
  show(if i=k then some u else a0H k (m++ [(j,v)]))=match (if i=k then some u else a0H k m)with|some u=>some u|none=>if j=k then some v else none
  split
  ·rfl
  ·exact g1T
section
variable {s t:St} {G:Gh} {P:List Int}
def c2O (x:Ent) (t:St):Ent:= {x with id:=t.next,born:=t.epoch}
def t0X (x:Ent) (t:St):St:= {t with log:=bk t.depth (bk t.depth t.log (.next t.next)) (.vols t.next (a0H t.next t.vols)),next:=m0F (t.next+1),vols:=c0F t.next (c2O x t) t.vols}
theorem l1L (x:Ent) {t:St} (hl:t.log.length<999999990):u0K x t=(.ok t.next,t0X x t):=by
 have h2:(bk t.depth t.log (.next t.next)).length<1000000000:=by
  unfold bk;split
  ·rw[List.length_append,List.length_singleton];omega
  ·omega
 unfold u0K o0X l0K r0K a0B back
 simp only
 rw[if_neg (by omega)]
 simp only
 rw[if_neg (by omega)]
 rfl
theorem h2D (h:Inv t G P) (x:Ent):Inv (t0X x t) G P:=h.other rfl rfl rfl rfl rfl ⟨h.u.m.refs,h.u.m.young,h.u.m.index,n0J _ _ h.u.m.vols⟩ h.u.keep
theorem h2E (h:Inv t G P) (x:Ent) (hd:0<t.depth) (hl:t.log.length<999999990):Rel 2 0 t (t0X x t):=by
 have:=o2U x t hd h.u (by rw[l1L x hl];simp)
 rw[l1L x hl]at this;exact this
theorem CI.more (h:CI s G) {made:M Ent} {x:Ent} {u:St} {c k:Nat} (h16:s.vols.length<16) (hn:a0H s.next s.vols=none) (hroom:2*(s.vols.length+1)≤b0U s)
 (e:made (Go.Sb.start s 1)=(.ok x,u)) (hi:Inv u G (x.root::j0A s)) (hx:Idx u G) (hr:Rel c k (Go.Sb.start s 1) u) (hc:c≤1000000) (hv:u.vols=s.vols) (hnx:u.next=s.next) (hk:b0K G 3 x.root) (hs:1≤x.size∧x.size≤2048):
 ∃s',l0V made s=(.ok (s.next,0),s')∧CI s' G∧s'.vols=s.vols++ [(s.next,{x with id:=s.next,born:=s.epoch})]∧s'.next=m0F (s.next+1)∧s'.epoch=s.epoch∧s'.bits=s.bits∧b0U s≤b0U s'+k:=by
 have hd:u.depth=1:=hr.depth
 have hep:u.epoch=s.epoch:=hr.epoch
 have hlog:u.log.length<999999990:=by have:=hr.len;have h1:(Go.Sb.start s 1).log.length=1:=rfl;omega
 have e1:Go.Sb.e0V 1 (a0B made u0K) {s with depth:=1} =(.ok u.next,t0X x u):=by
  rw[h.roomC (.inr hroom),a0A e,l1L x hlog]
 have r1:Rel (1+(c+2)) (0+(k+0)) {s with depth:=1} (t0X x u):=(h.rel 1).trans (hr.trans (h2E hi x (by omega) hlog))
 have e2:=r0U h e1 r1
 have hvol:(t0X x u).vols=s.vols++ [(s.next,{x with id:=s.next,born:=s.epoch})]:=by
  show c0F u.next (c2O x u) u.vols=_
  unfold c2O
  rw[hv,hnx,hep,g1S hn]
 have hroots:j0A (t0X x u)=j0A s++ [x.root]:=by unfold j0A;rw[hvol,List.map_append];rfl
 have i1:Inv (t0X x u) G (j0A (t0X x u)):=by
  rw[hroots]
  exact(h2D hi x).perm fun y _=>by rw[List.count_append,List.count_cons,List.count_singleton,Nat.add_comm]
 refine⟨Go.Sb.fin (t0X x u),?_,CI.fin i1 hx (fun p hp=> ?_) (fun p hp=> ?_) ?_,hvol,?_,hep,hr.bits,?_⟩
 ·unfold l0V
  rw[if_neg (by omega),a0A e2]
  simp only[a1I,if_true]
  rw[hnx];rfl
 ·rw[hvol]at hp
  rcases List.mem_append.1 hp with hp|hp
  ·exact h.kid p hp
  ·rw[List.mem_singleton.1 hp];exact hk
 ·rw[hvol]at hp
  rcases List.mem_append.1 hp with hp|hp
  ·exact h.ids p hp
  ·rw[List.mem_singleton.1 hp];exact⟨rfl,hs⟩
 ·rw[hvol];simp;omega
 ·show m0F (u.next+1)=_;rw[hnx]
 ·have h1:=r1.room
  have h2:=w0T i1
  have h3:b0U ({s with depth:=1} :St)=b0U s:=rfl
  omega
theorem CI.create (h:CI s G) {size:Int} (hs:1≤size∧size≤2048) (h16:s.vols.length<16) (hn:a0H s.next s.vols=none) (hroom:2*(s.vols.length+1)≤b0U s):
 ∃s',g0J size s=(.ok (s.next,0),s')∧CI s' G∧s'.vols=s.vols++ [(s.next,{j0I with size:=size,id:=s.next,born:=s.epoch})]∧s'.next=m0F (s.next+1)∧s'.epoch=s.epoch∧s'.bits=s.bits∧b0U s≤b0U s':=by
 obtain⟨i1,x1⟩:=h.start 1
 have e:g0J size s=l0V (ret {j0I with size:=size}) s:=by unfold g0J;rw[if_neg (by omega)]
 rw[e]
 exact h.more h16 hn hroom (made:=ret {j0I with size:=size}) rfl i1.add0 x1 (Rel.refl i1.u) (by omega) rfl rfl (.inl rfl) hs
theorem CI.copy (h:CI s G) {id:Int} {only:Bool} {x:Ent} (hx:a0H id s.vols=some x) (h16:s.vols.length<16) (hn:a0H s.next s.vols=none) (hroom:2*(s.vols.length+1)≤b0U s):
 ∃s',h0X id only s=(.ok (s.next,0),s')∧CI s' G∧s'.vols=s.vols++ [(s.next,{j0I with parent:=id,only:=only,size:=x.size,root:=x.root,id:=s.next,born:=s.epoch})]∧s'.next=m0F (s.next+1)∧s'.epoch=s.epoch∧s'.bits=s.bits∧b0U s≤b0U s':=by
 obtain⟨i1,x1⟩:=h.start 1
 have hmem:(id,x)∈s.vols:=(g0X h.inv.u.m.vols).1 hx
 have hk:=h.kid _ hmem
 have hids:=h.ids _ hmem
 have e:h0X id only s=l0V (x0K id only) s:=by unfold h0X;rw[hx]
 rw[e]
 have hf:find id (Go.Sb.start s 1)=(.ok x,Go.Sb.start s 1):=by unfold find;rw[show a0H id (Go.Sb.start s 1).vols=some x from hx]
 by_cases h0:x.root=0
 ·refine h.more (u:=Go.Sb.start s 1) (c:=0) (k:=0) h16 hn hroom (x:= {j0I with parent:=id,only:=only,size:=x.size,root:=x.root}) ?_ ?_ x1 (Rel.refl i1.u) (by omega) rfl rfl hk hids.2
  ·unfold x0K
   rw[a0A hf]
   unfold g0O
   rw[if_pos h0]
   rfl
  ·rw[h0];exact i1.add0
 ·rcases hk with hk| ⟨ks,sm,ho⟩
  ·exact(h0 hk).elim
  ·obtain⟨u,e1,i2,r2,q1,q2,q3,q4⟩:=i1.more ho Nat.zero_lt_one (by show 1<1000000000;omega) (by unfold j0A;rw[List.length_map];have:=h.few;omega)
   have hb2:u.bits=s.bits:=r2.bits
   refine h.more (u:=u) (c:=1) (k:=0) h16 hn hroom (x:= {j0I with parent:=id,only:=only,size:=x.size,root:=x.root}) ?_ i2 (fun k a=>by rw[q1,hb2];exact h.idx k a) r2 (by omega) q3 q4 (.inr ⟨ks,sm,ho⟩) hids.2
   unfold x0K
   rw[a0A hf]
   have e2:g0O x.root 3 (Go.Sb.start s 1)=(.ok (),u):=by unfold g0O;rw[if_neg h0,if_neg (by decide)];exact e1
   rw[a0A e2];rfl
end
end
section
section
variable {K V:Type} [DecidableEq K]
theorem o0C {k:K} {v:V} : ∀ {m:List (K×V)},a0H k m=some v→m.Perm ((k,v)::b0I k m)
 | [],h=>by cases h
 | (j,u)::m,h=>by
  unfold a0H at h
  unfold b0I
  split at h
  ·rename_i e;subst e;cases h;rw[if_pos rfl]
  ·rename_i e;rw[if_neg e];exact(List.Perm.cons _ (o0C h)).trans (List.Perm.swap _ _ _)
theorem u0G {k:K} {v w:V} : ∀ {m:List (K×V)},a0H k m=some v→(c0F k w m).Perm ((k,w)::b0I k m)
 | [],h=>by cases h
 | (j,u)::m,h=>by
  unfold a0H at h
  unfold b0I c0F
  split at h
  ·rename_i e;rw[if_pos e,if_pos e]
  ·rename_i e;rw[if_neg e,if_neg e];exact(List.Perm.cons _ (u0G h)).trans (List.Perm.swap _ _ _)
theorem n0B {k:K} {p:K×V} : ∀ {m:List (K×V)},p∈b0I k m→p∈m
 | [],h=>h
 | (j,u)::m,h=>by
  unfold b0I at h
  split at h
  ·exact List.mem_cons_of_mem _ h
  ·rcases List.mem_cons.1 h with h|h
   ·rw[h];exact List.mem_cons_self ..
   ·exact List.mem_cons_of_mem _ (n0B h)
end
def l0W:Nat:=16+f0U 2
theorem x0P:l0W≤12666:=by decide
section
variable {s t:St} {G:Gh} {P:List Int}
def n0C (s:St) (G:Gh) (id:Int):List (Nat→B):=(b0I id s.vols).map fun p=>b0D G p.2.root
def n0D (id:Int) (y:Ent) (t:St):St:= {t with log:=bk t.depth t.log (.vols id (a0H id t.vols)),vols:=c0F id y t.vols}
theorem v0R {y:Ent} {t:St} (hl:t.log.length<1000000000):l0K y t=(.ok (),n0D y.id y t):=by
 unfold l0K r0K a0B back
 simp only
 rw[if_neg (by omega)]
 rfl
theorem f1E {x:Ent} {a n:Nat} (h:a+n≤x.size) (hs:x.size≤2048) (s:St):g0T x a n s=(.ok (),s):=by
 unfold g0T k0U
 rw[if_neg (by omega),if_neg (by omega)];rfl
theorem CI.write (h:CI s G) {id:Int} {x:Ent} {at_ m:Nat} {data:B} (hx:a0H id s.vols=some x) (ho:x.only=false) (hm:data.length=64*m) (hat:at_+m≤x.size) (hroom:2*s.vols.length+m*8≤b0U s)
 (hmax:m≤70) (hno: ¬i0Z s.bits (n0C s G id) data.length (b0D G x.root) at_ data):
 ∃s' G' r,h0E id at_ data s=(.ok 0,s')∧CI s' G'∧s'.vols=c0F id {x with root:=r} s.vols∧b0D G' r=j0R data.length (b0D G x.root) at_ data∧(∀p∈b0I id s.vols,b0D G' p.2.root=b0D G p.2.root)∧
  s'.next=s.next∧s'.epoch=s.epoch∧s'.bits=s.bits∧b0U s≤b0U s'+m*8:=by
 obtain⟨i1,x1⟩:=h.start 0
 have hmem:(id,x)∈s.vols:=(g0X h.inv.u.m.vols).1 hx
 have hids:x.id=id∧1≤x.size∧x.size≤2048:=h.ids _ hmem
 have hp:=o0C hx
 have hC:=x0P
 have hlen:(b0I id s.vols).length≤16:=by have h1:=hp.length_eq;simp only[List.length_cons]at h1;have:=h.few;omega
 have hroots:Inv (Go.Sb.start s 0) G (x.root::(b0I id s.vols).map (·.2.root)):=i1.perm fun y _=>((hp.map (fun p:Int×Ent=>p.2.root)).count_eq y)
 have hfind:l0C id (Go.Sb.start s 0)=(.ok x,Go.Sb.start s 0):=by
  unfold l0C
  rw[a0A (show find id (Go.Sb.start s 0)=(.ok x,Go.Sb.start s 0) by unfold find;rw[show a0H id (Go.Sb.start s 0).vols=some x from hx])]
  rw[if_neg (by simp[ho])];rfl
 have hmaps:((b0I id s.vols).map (·.2.root)).map (b0D G)=n0C s G id:=by rw[List.map_map];rfl
 have hpat:=Inv.patch l0W rfl data.length m (x:=x) (at_:=at_) (data:=data) hroots x1 (h.kid _ hmem) (fun p hp'=>by obtain⟨q,hq,rfl⟩:=List.mem_map.1 hp';exact h.kid _ (n0B hq)) (by omega) (by omega) (by omega)
  (f1D h (by have:=Nat.mul_le_mul hmax hC;omega) 0) (by rw[List.length_map];omega)
 rw[hmaps]at hpat
 have e0:Go.Sb.e0V 0 (h0Y id at_ data) {s with depth:=1} =a0B (e0U x at_ data) l0K (Go.Sb.start s 0):=by
  rw[h.roomC (.inl rfl)]
  unfold h0Y
  rw[a0A hfind,if_neg (by omega),show((data.length/64:Nat):Int)=(m:Nat) by omega,a0A (f1E (by omega) (by omega) _),Int.toNat_natCast]
 rcases hpat with ⟨r,u,G',e1,i2,t2,k2,k3,m2,_⟩| ⟨e,u,e1,he⟩
 ·obtain⟨y,hy⟩: ∃y:Ent,y= {x with root:=r} :=⟨_,rfl⟩
  have hyid:y.id=id:=by rw[hy];exact hids.1
  have hyr:y.root=r:=by rw[hy]
  have hys:1≤y.size∧y.size≤2048:=by rw[hy];exact hids.2
  rw[←hy]at e1
  have hd:u.depth=1:=t2.rel.depth
  have hlog:u.log.length<1000000000:=by have:=t2.rel.len;have h1:(Go.Sb.start s 0).log.length=1:=rfl;have:=Nat.mul_le_mul hmax hC;omega
  have hu:u.vols=s.vols:=t2.vols
  have e2:Go.Sb.e0V 0 (h0Y id at_ data) {s with depth:=1} =(.ok (),n0D id y u):=by
   rw[e0,a0A (show e0U x at_ data (Go.Sb.start s 0)=_ from e1),v0R hlog]
   rw[hyid]
  have r2:Rel 1 0 u (n0D id y u):=by
   have:=v0L y u (by omega) i2.u (by rw[v0R hlog];simp)
   rw[v0R hlog,hyid]at this
   exact this
  have r3:=(h.rel 0).trans (t2.rel.trans r2)
  have e3:=r0U h e2 r3
  have hvol:(n0D id y u).vols=c0F id y s.vols:=by show c0F _ _ u.vols=_;rw[hu]
  have hpp:=u0G (w:=y) hx
  have i3:Inv (n0D id y u) G' (r::(b0I id s.vols).map (·.2.root)):=i2.other rfl rfl rfl rfl rfl ⟨i2.u.m.refs,i2.u.m.young,i2.u.m.index,n0J _ _ i2.u.m.vols⟩ i2.u.keep
  have i4:Inv (n0D id y u) G' (j0A (n0D id y u)):=by
   unfold j0A;rw[hvol]
   exact i3.perm fun z _=>by rw[(hpp.map (fun p:Int×Ent=>p.2.root)).count_eq z,List.map_cons,hyr]
  have hmm: ∀p∈(n0D id y u).vols,p=(id,y)∨p∈b0I id s.vols:=fun p hp'=>by
   rw[hvol]at hp'
   exact List.mem_cons.1 (hpp.mem_iff.1 hp')
  refine⟨Go.Sb.fin (n0D id y u),G',r,?_,CI.fin i4 t2.idx (fun p hp'=> ?_) (fun p hp'=> ?_) ?_,by rw[←hy];exact hvol,m2,fun p hp'=> ?_,?_,r3.epoch,r3.bits,?_⟩
  ·unfold h0E;rw[a0A e3];rfl
  ·rcases hmm p hp' with rfl|hq
   ·show b0K G' 3 y.root;rw[hyr];exact k2
   ·exact(k3 _ (List.mem_map.2 ⟨p,hq,rfl⟩)).1
  ·rcases hmm p hp' with rfl|hq
   ·exact⟨hyid,hys⟩
   ·exact h.ids _ (n0B hq)
  ·rw[hvol,hpp.length_eq];simp only[List.length_cons];have h1:=hp.length_eq;simp only[List.length_cons]at h1;have:=h.few;omega
  ·exact(k3 _ (List.mem_map.2 ⟨p,hp',rfl⟩)).2
  ·exact t2.next
  ·have h1:=r3.room
   have h2:=w0T i4
   have h3:b0U ({s with depth:=1} :St)=b0U s:=rfl
   omega
 ·rcases he with ⟨_,h8⟩| ⟨_,h9⟩
  ·exfalso
   have h3:b0U (Go.Sb.start s 0)=b0U s:=rfl
   have h4:(Go.Sb.start s 0).keep=((2*(s.vols.length+0):Nat):Int):=rfl
   rw[h3,h4]at h8
   omega
  ·exact(hno h9).elim
theorem CI.writeErr (h:CI s G) {id at_:Int} {data:B} {er:Int} {t:St} {c k:Nat} (e:h0Y id at_ data (Go.Sb.start s 0)=(.err er,t)) (her:er≠0) (r:Rel c k (Go.Sb.start s 0) t):
 ∃s',h0E id at_ data s=(.ok er,s')∧CI s' G∧s'.vols.Perm s.vols∧meq s'.vols s.vols∧s'.bits=s.bits∧s'.next=s.next∧s'.epoch=s.epoch∧b0U s≤b0U s':=by
 have e0:Go.Sb.e0V 0 (h0Y id at_ data) {s with depth:=1} =(.err er,t):=by rw[h.roomC (.inl rfl)];exact e
 have r3:=(h.rel 0).trans r
 obtain⟨u1,u2,u3,u4,u5,u6,u7⟩:=h.undone r3
 refine⟨_,?_,u1,u2,u3,u4,u5,u6,u7⟩
 unfold h0E;rw[a0A (g1R h e0 her r3)];rfl
theorem CI.read (h:CI s G) {id:Int} {x:Ent} {at_ n:Nat} (hx:a0H id s.vols=some x) (hat:at_+n≤x.size):o0T id at_ n s=(.ok (a1Q (b0D G x.root) n at_ n,0),s):=by
 have hmem:(id,x)∈s.vols:=(g0X h.inv.u.m.vols).1 hx
 have hids:x.id=id∧1≤x.size∧x.size≤2048:=h.ids _ hmem
 have e0:n0P id at_ n {s with depth:=1} =(.ok (a1Q (b0D G x.root) n at_ n),{s with depth:=1}):=by
  unfold n0P
  rw[a0A (show find id {s with depth:=1} =(.ok x,{s with depth:=1}) by unfold find;rw[show a0H id ({s with depth:=1} :St).vols=some x from hx])]
  rw[a0A (f1E (by omega) (by omega) _),Int.toNat_natCast,Int.toNat_natCast]
  exact h.deep.creads (h.kid _ hmem) _ _ _ (by omega)
 unfold o0T
 rw[a0A (r0U h e0 (Rel.refl h.deep.u)),h2C h.dep h.log h.gone]
 rfl
theorem CI.new {n bits:Nat} (hn:n≤60000):CI (j0U (g0G (n+2)) 2 bits 1) []:=by
 have hg:(j0U (g0G (n+2)) 2 bits 1).g=List.replicate n 0:=by simp[j0U,g0G]
 have hc1:(List.replicate n 0).count 1=0:=by rw[List.count_replicate];simp
 have hz: ∀a,isB 2 (List.replicate n 0) a 1=false:=fun a=>by
  cases hb:isB 2 (List.replicate n 0) a 1 with
  |false=>rfl
  |true=>
   have:=(p0C.1 hb).2.2
   rw[List.getElem?_replicate]at this
   split at this<;>simp at this
 have hu:UOK (j0U (g0G (n+2)) 2 bits 1):=⟨⟨List.nodup_nil,List.nodup_nil,List.nodup_nil,List.nodup_nil⟩,Int.le_refl _,fun a ha=>(ha rfl).elim,⟨rfl,rfl⟩,(by rw[hg];simp[j0U,g0G];omega),⟨List.nodup_nil,(by intro a ha;cases ha)⟩⟩
 refine⟨⟨hu,List.nodup_nil,(by show 1≤2;omega),(by rw[hg];show 2+_≤_;simp;omega),fun a _=>rfl,fun a _=> ?_,rfl,fun a=> ?_,fun a o ho=>(by cases ho),fun a o ho=>(by cases ho),?_⟩,fun k a=> ?_,fun p hp=>(by cases hp),fun p hp=>(by cases hp),rfl,rfl,rfl,(by show 0≤16;omega)⟩
 ·exact⟨fun h=>(h rfl).elim,fun h=>(by cases h)⟩
 ·rw[hg];show isB 2 _ a 1=true↔_
  rw[hz a];exact⟨fun h=>(by cases h),fun h=>(by cases h)⟩
 ·rw[hg,hc1];rfl
 ·exact⟨fun h=>(by cases h),fun⟨d,ats,h,_⟩=>(by cases h)⟩
end
end
end Go.Sb
namespace Go.Sb.Sha
def w0:List W:= [1116352408#32,1899447441#32,3049323471#32,3921009573#32,961987163#32,1508970993#32,2453635748#32,2870763221#32,3624381080#32,310598401#32,607225278#32,1426881987#32,1925078388#32,2162078206#32,2614888103#32,3248222580#32,3835390401#32,4022224774#32,264347078#32,604807628#32,770255983#32,1249150122#32,1555081692#32,1996064986#32,2554220882#32,2821834349#32,2952996808#32,3210313671#32,3336571891#32,3584528711#32,113926993#32,338241895#32,666307205#32,773529912#32,1294757372#32,1396182291#32,1695183700#32,1986661051#32,2177026350#32,2456956037#32,2730485921#32,2820302411#32,3259730800#32,3345764771#32,3516065817#32,3600352804#32,4094571909#32,275423344#32,430227734#32,506948616#32,659060556#32,883997877#32,958139571#32,1322822218#32,1537002063#32,1747873779#32,1955562222#32,2024104815#32,2227730452#32,2361852424#32,2428436474#32,2756734187#32,3204031479#32,3329325298#32]
def w1:List W:= [1133195417#32,1916290450#32,3066166480#32,3937852582#32,978830172#32,1525814002#32,2470478757#32,2887606230#32,3641224089#32,327441410#32,624068287#32,1443724996#32,1941921397#32,2178921215#32,2631731112#32,3265065589#32,3382750981#32,3569585354#32,1582936477#32,1923397027#32,2110814574#32,2589708713#32,4043884060#32,4015384925#32,3459532953#32,4135387620#32,2269421627#32,1298861131#32,3979148651#32,2773771155#32,2837752842#32,45601321#32,2359728791#32,257968678#32,128202080#32,499975457#32,3295403810#32,3767750719#32,2936976636#32,4012566421#32,1813556566#32,2671037753#32,1528772788#32,4249992266#32,3123706547#32,3770506850#32,1350679377#32,1002245952#32,3016296585#32,1122779281#32,4258981106#32,2791365580#32,1927562864#32,2229998207#32,3591167994#32,464652048#32,3318886517#32,1896791069#32,2771517833#32,4032135724#32,275376738#32,725137816#32,903905101#32,1486194156#32]
def w2:List W:= [1150038426#32,1933133459#32,3083009489#32,3954695591#32,995673181#32,1542657011#32,2487321766#32,2904449239#32,3658067098#32,344284419#32,640911296#32,1460568005#32,1958764406#32,2195764224#32,2648574121#32,3281908598#32,2930111562#32,3116945935#32,2897331572#32,3237792122#32,3451361062#32,3930255201#32,3718529576#32,3220548013#32,2820640546#32,1615505226#32,2366379135#32,1380589179#32,1500484750#32,973756250#32,201810910#32,173434379#32,1923619370#32,1450592922#32,1787701321#32,1522187192#32,974114816#32,2366238110#32,2794782199#32,572494234#32,3426031149#32,3939998204#32,925616642#32,913473001#32,789112016#32,2383206471#32,3805508600#32,3282570650#32,3944913353#32,3449112579#32,3967958319#32,74740145#32,3696760330#32,485590616#32,486927552#32,2502831210#32,686267396#32,3492545449#32,3810547796#32,1028799346#32,1838545428#32,3464193052#32,2508397280#32,1595731735#32]
def w3:List W:= [1166881435#32,1949976468#32,3099852498#32,3971538600#32,1012516190#32,1559500020#32,2504164775#32,2921292248#32,3674910107#32,361127428#32,657754305#32,1477411014#32,1975607415#32,2212607233#32,2665417130#32,3298751607#32,2468951950#32,2655786323#32,1004735574#32,1345196124#32,2502358250#32,2981252389#32,2257086099#32,1281101915#32,977063174#32,2969724770#32,2555575135#32,883360581#32,189438193#32,989241110#32,3184034966#32,510754668#32,2981958896#32,1697766683#32,829290962#32,3598408888#32,2927043512#32,3874564143#32,1022800712#32,1114927619#32,3345800616#32,3315974508#32,2762326756#32,2756995779#32,889304423#32,478323665#32,956406703#32,2174782338#32,258716846#32,1414833826#32,410763748#32,1125978466#32,3057809126#32,2108334129#32,4203157581#32,165248569#32,3590525818#32,3866804577#32,2353776852#32,271200330#32,450320648#32,25902305#32,488404409#32,1793265406#32]
def w4:List W:= [3263836056#32,1899447441#32,3049323471#32,3921009573#32,961987163#32,1508970993#32,2453635748#32,2870763221#32,3624381080#32,310598401#32,607225278#32,1426881987#32,1925078388#32,2162078206#32,2614888103#32,3248224628#32,1687906753#32,4106110856#32,266464710#32,604808172#32,1340683375#32,1271432362#32,1639532318#32,1996086874#32,4198912342#32,3368162946#32,2954717485#32,56203285#32,819081873#32,3924826383#32,1615937327#32,3662244855#32,2205442591#32,1885708555#32,3539820678#32,858889044#32,45126111#32,1814009033#32,788498427#32,1731177263#32,1241315092#32,3112895784#32,1532581257#32,3188603407#32,1089985150#32,1654184804#32,866438350#32,4162380699#32,1364074688#32,476854630#32,599375586#32,108516303#32,1336354205#32,2395837610#32,4035581856#32,222193058#32,3370441009#32,3714610257#32,2931585713#32,2148752908#32,661148149#32,2606462070#32,41398732#32,3941551781#32]
def sec (k:Nat):List UInt8:=List.replicate 64 (UInt8.ofNat k)
def o0G:List UInt8:=128::(List.replicate 55 0++be8 2048)
theorem wk0:wk (sec 0)=w0:=by decide+kernel
theorem wk1:wk (sec 1)=w1:=by decide+kernel
theorem wk2:wk (sec 2)=w2:=by decide+kernel
theorem wk3:wk (sec 3)=w3:=by decide+kernel
theorem wk4:wk o0G=w4:=by decide+kernel
def ww (k:Nat):List W:=match k with|0=>w0|1=>w1|2=>w2|_=>w3
def four (k:List W→List Nat):List Nat:=k w0++(k w1++(k w2++k w3))
def c2P (h:List W):List Nat:=a1K h w4 fun h=> [(at_ h 0).toNat]
def t1B (h:List W):List Nat:=four fun x=>a1K h x fun h=>four fun y=>a1K h y c2P
def m0O (a b:Nat):List Nat:=a1K start (ww a) fun h=>a1K h (ww b) t1B
def tab (a b:Nat):List Nat:=match 4*a+b with
 |0=> [1396827826,1550914536,2039498492,2387280181,883752447,3361315047,3081931578,617895476,3230844978,3081737201,1092378180,1162281012,887862196,2522349969,2407102295,2345801324]
 |1=> [816925585,267325322,2516726038,469170299,1213298010,1492887108,1889090512,1112867804,4033131754,2205329458,868322499,2697439140,1122408886,3876903364,3112287776,121720113]
 |2=> [1818082622,205500531,407924280,1293077799,2633351488,177942856,2982880274,529217762,3295231060,4207249023,2863039356,2069284679,3467176235,3863159894,1288073670,3990524654]
 |3=> [3930838328,724011696,1384120662,4088765726,2032296519,3508868040,3580264942,2816610888,211294740,2782797484,1128998836,1705909736,2385785023,3744886094,4216486116,767631065]
 |4=> [3097901666,3202992244,362718933,4210244791,2734094447,1458808161,3817871448,2943924884,3944673291,2447768362,1752932943,2204911397,222153930,4028612426,1597712475,3196546693]
 |5=> [3120010704,1195085953,4277752222,3815451992,2508013137,643928591,3966578828,316068783,887900569,3749482315,2510327746,88037892,1377994081,4093650266,3901915426,3912518166]
 |6=> [4033243686,4101887202,3502492252,3359644000,2433058384,3392448812,888817791,1742637583,430630185,3758719454,3977517492,4172100499,2717165763,1902001073,2416475910,1018150990]
 |7=> [3411727756,3988348970,2246117797,4182375010,3857145990,1623241207,2442383249,3864420738,3978668586,2633374389,1299912381,4244146390,282988513,3035538353,6850534,838498126]
 |8=> [1335539051,1298252275,918927688,2068861076,576552239,2275519707,2934809269,3450107385,1373759052,790896672,2628775961,2708617305,1581747232,704528092,1640961482,3255314374]
 |9=> [686887521,1286960148,377635684,3760182258,2927729465,2515898291,964621818,2327155200,2182840564,2867099919,19437618,3763522739,3409218662,4167803790,1600797471,914285912]
 |10=> [877049130,2794465858,1290953114,1980436148,2549493040,2782994075,3218029552,2304389420,3941336782,2868785562,4123143733,4161443054,2922133596,1748554510,3962314760,899673374]
 |11=> [2649087361,3882011355,611689463,2776834808,180600510,2246553383,2895479405,2176980985,3887752967,2209223989,2123069431,2911691486,1192636373,1135468434,1377874293,507983806]
 |12=> [3658104682,2621240489,47344678,1065960580,493261673,4119635404,2607564121,29539086,3368889056,3927639752,4074504150,581044628,328746370,2519108573,1844154813,508049387]
 |13=> [1271925871,1591760705,2401340085,2803556920,2583380790,2750632103,195900958,4121962732,1552080054,2428184220,3391186730,1911646673,2644449414,3352566797,1669681715,1242822505]
 |14=> [3261799072,2434840550,731257797,3097765481,1900409995,486532404,2642946561,4248803625,1947981908,3341829803,3974871154,852255562,1363870554,3934961700,4069975497,1802615281]
 |_=> [3045905782,4100634443,2581448430,3349378404,3564129468,952281366,1918479817,3930107805,3807671625,3828478330,4192872740,1227702853,854333182,560490985,3536644234,3770807365]
theorem c00:m0O 0 0=tab 0 0:=by decide+kernel
theorem c01:m0O 0 1=tab 0 1:=by decide+kernel
theorem c02:m0O 0 2=tab 0 2:=by decide+kernel
theorem c03:m0O 0 3=tab 0 3:=by decide+kernel
theorem c10:m0O 1 0=tab 1 0:=by decide+kernel
theorem c11:m0O 1 1=tab 1 1:=by decide+kernel
theorem c12:m0O 1 2=tab 1 2:=by decide+kernel
theorem c13:m0O 1 3=tab 1 3:=by decide+kernel
theorem c20:m0O 2 0=tab 2 0:=by decide+kernel
theorem c21:m0O 2 1=tab 2 1:=by decide+kernel
theorem c22:m0O 2 2=tab 2 2:=by decide+kernel
theorem c23:m0O 2 3=tab 2 3:=by decide+kernel
theorem c30:m0O 3 0=tab 3 0:=by decide+kernel
theorem c31:m0O 3 1=tab 3 1:=by decide+kernel
theorem c32:m0O 3 2=tab 3 2:=by decide+kernel
theorem c33:m0O 3 3=tab 3 3:=by decide+kernel
def x0Q (i:Nat):Nat:=(tab (i/64) (i/16%4)).getD (i%16) 0
def chk:Bool:=(List.range 256).all fun i=>(List.range 256).all fun j=>Nat.beq i j || !Nat.beq (x0Q i) (x0Q j)
theorem q2E:chk=true:=by decide+kernel
theorem q2F {i j:Nat} (hi:i<256) (hj:j<256) (h:x0Q i=x0Q j):i=j:=by
 have h1:=q2E
 unfold chk at h1
 rw[List.all_eq_true]at h1
 have h2:=h1 i (List.mem_range.2 hi)
 rw[List.all_eq_true]at h2
 have h3:=h2 j (List.mem_range.2 hj)
 rw[h,Nat.beq_refl,Bool.not_true,Bool.or_false]at h3
 exact Nat.eq_of_beq_eq_true h3
theorem h2F {h:List W} (hh:h.length=8) {c d:Nat} (hc:c<4) (hd:d<4):(t1B h).getD (4*c+d) 0=(at_ (j0W (j0W (j0W h (ww c)) (ww d)) w4) 0).toNat:=by
 have e1: ∀x,a1K h x (fun h=>four fun y=>a1K h y c2P)= [(at_ (j0W (j0W (j0W h x) w0) w4) 0).toNat,(at_ (j0W (j0W (j0W h x) w1) w4) 0).toNat,(at_ (j0W (j0W (j0W h x) w2) w4) 0).toNat,(at_ (j0W (j0W (j0W h x) w3) w4) 0).toNat]:=fun x=>by
  have h1:=g0K (l:=x) hh
  rw[n0Z hh]
  unfold four c2P
  dsimp only
  rw[n0Z h1,n0Z h1,n0Z h1,n0Z h1,n0Z (g0K h1),n0Z (g0K h1),n0Z (g0K h1),n0Z (g0K h1)]
  rfl
 unfold t1B
 have hf: ∀k:List W→List Nat,four k=k w0++(k w1++(k w2++k w3)):=fun _=>rfl
 rw[hf]
 rw[e1,e1,e1,e1]
 match c,d,hc,hd with
 |0,0,_,_=>rfl
 |0,1,_,_=>rfl
 |0,2,_,_=>rfl
 |0,3,_,_=>rfl
 |1,0,_,_=>rfl
 |1,1,_,_=>rfl
 |1,2,_,_=>rfl
 |1,3,_,_=>rfl
 |2,0,_,_=>rfl
 |2,1,_,_=>rfl
 |2,2,_,_=>rfl
 |2,3,_,_=>rfl
 |3,0,_,_=>rfl
 |3,1,_,_=>rfl
 |3,2,_,_=>rfl
 |3,3,_,_=>rfl
theorem m2D {a b:Nat} (ha:a<4) (hb:b<4):m0O a b=tab a b:=by
 match a,b,ha,hb with
 |0,0,_,_=>exact c00
 |0,1,_,_=>exact c01
 |0,2,_,_=>exact c02
 |0,3,_,_=>exact c03
 |1,0,_,_=>exact c10
 |1,1,_,_=>exact c11
 |1,2,_,_=>exact c12
 |1,3,_,_=>exact c13
 |2,0,_,_=>exact c20
 |2,1,_,_=>exact c21
 |2,2,_,_=>exact c22
 |2,3,_,_=>exact c23
 |3,0,_,_=>exact c30
 |3,1,_,_=>exact c31
 |3,2,_,_=>exact c32
 |3,3,_,_=>exact c33
def t1C (a b c d:Nat):List W:=j0W (j0W (j0W (j0W (j0W start (ww a)) (ww b)) (ww c)) (ww d)) w4
theorem t1D {a b c d:Nat} (ha:a<4) (hb:b<4) (hc:c<4) (hd:d<4):(at_ (t1C a b c d) 0).toNat=x0Q (64*a+16*b+4*c+d):=by
 unfold x0Q
 rw[show(64*a+16*b+4*c+d)/64=a by omega,show(64*a+16*b+4*c+d)/16%4=b by omega,show(64*a+16*b+4*c+d)%16=4*c+d by omega,←m2D ha hb]
 unfold m0O
 rw[n0Z rfl,n0Z (g0K rfl),h2F (g0K (g0K rfl)) hc hd]
 rfl
def u0M (a b c d:Nat):List UInt8:=sec a++(sec b++(sec c++sec d))
theorem t0B (k:Nat):(sec k).length=64:=by unfold sec;rw[List.length_replicate]
theorem m2E (a b c d:Nat):(u0M a b c d).length=256:=by unfold u0M;simp only[List.length_append,t0B]
theorem s2G {k:Nat} (h:k<4):wk (sec k)=ww k:=by
 match k,h with
 |0,_=>exact wk0
 |1,_=>exact wk1
 |2,_=>exact wk2
 |3,_=>exact wk3
theorem t1E {a b c d:Nat} (ha:a<4) (hb:b<4) (hc:c<4) (hd:d<4):sum (u0M a b c d)=(t1C a b c d).flatMap be4:=by
 have hp:l0T (u0M a b c d)=sec a++(sec b++(sec c++(sec d++o0G))):=by
  unfold l0T
  rw[m2E]
  unfold u0M
  simp only[List.append_assoc]
  rfl
 have hl:(l0T (u0M a b c d)).length/64=5:=by
  rw[hp];simp only[List.length_append,t0B];rfl
 unfold sum
 rw[hl,hp]
 unfold t1C
 have step: ∀(n:Nat) (h:List W) (k:Nat) (r:List UInt8),k<4→f0E (n+1) h (sec k++r)=f0E n (j0W h (ww k)) r:=fun n h k r hk=>by
  show f0E n (mix h ((sec k++r).take 64)) ((sec k++r).drop 64)=_
  rw[List.take_left' (t0B k),List.drop_left' (t0B k),f2W,s2G hk]
 rw[step 4 _ a _ ha,step 3 _ b _ hb,step 2 _ c _ hc,step 1 _ d _ hd]
 have e5: ∀h,f0E 1 h o0G=j0W h w4:=fun h=>by
  show mix h (o0G.take 64)=_
  rw[List.take_of_length_le (by exact Nat.le_refl 64),f2W,wk4]
 rw[e5]
theorem q2G {x y:W} (h:be4 x=be4 y):x=y:=by
 unfold be4 at h
 simp only[List.cons.injEq,and_true]at h
 obtain⟨h1,h2,h3,h4⟩:=h
 have h1:=congrArg UInt8.toBitVec h1
 have h2:=congrArg UInt8.toBitVec h2
 have h3:=congrArg UInt8.toBitVec h3
 have h4:=congrArg UInt8.toBitVec h4
 have g1:=congrArg BitVec.toNat h1
 have g2:=congrArg BitVec.toNat h2
 have g3:=congrArg BitVec.toNat h3
 have g4:=congrArg BitVec.toNat h4
 simp only[BitVec.toNat_setWidth,BitVec.toNat_ushiftRight,Nat.shiftRight_eq_div_pow]at g1 g2 g3 g4
 apply BitVec.eq_of_toNat_eq
 have:=x.isLt
 have:=y.isLt
 omega
theorem v1X {a b c d a' b' c' d':Nat} (ha:a<4) (hb:b<4) (hc:c<4) (hd:d<4) (ha':a'<4) (hb':b'<4) (hc':c'<4) (hd':d'<4) (h:sum (u0M a b c d)=sum (u0M a' b' c' d')):u0M a b c d=u0M a' b' c' d':=by
 rw[t1E ha hb hc hd,t1E ha' hb' hc' hd']at h
 have l1:(t1C a b c d).length=8:=g0K (g0K (g0K (g0K (g0K rfl))))
 have l2:(t1C a' b' c' d').length=8:=g0K (g0K (g0K (g0K (g0K rfl))))
 have f1:=t1D ha hb hc hd
 have f2:=t1D ha' hb' hc' hd'
 obtain⟨x0,x1,x2,x3,x4,x5,x6,x7,hx⟩:=o1N _ l1
 obtain⟨y0,y1,y2,y3,y4,y5,y6,y7,hy⟩:=o1N _ l2
 rw[hx,hy]at h
 rw[hx]at f1
 rw[hy]at f2
 rw[List.flatMap_cons,List.flatMap_cons (xs:= [y1,y2,y3,y4,y5,y6,y7])]at h
 have h4:=congrArg (List.take 4) h
 rw[List.take_left' (show(be4 x0).length=4 from rfl),List.take_left' (show(be4 y0).length=4 from rfl)]at h4
 have h5:=q2G h4
 have h6:x0Q (64*a+16*b+4*c+d)=x0Q (64*a'+16*b'+4*c'+d'):=by
  rw[←f1,←f2];show x0.toNat=y0.toNat;rw[h5]
 have h7:=q2F (by omega) (by omega) h6
 rw[show a=a' by omega,show b=b' by omega,show c=c' by omega,show d=d' by omega]
end Go.Sb.Sha

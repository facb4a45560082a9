/- Part of the proof; no statement of its own. -/
import Derived.Test.YtpinhnikemamjaaGreatDoorD11
import Derived.Test.YtpinhnikemamjaaGreatDoorD08
import Derived.KernelRfl
set_option linter.all false
set_option maxRecDepth 4000
set_option maxHeartbeats 4000000
namespace Go.Sb
section
def t0O (a data:B) (f n:Nat):B:=a.take f++data.take n++a.drop (f+n)
def k0J:Nat→(Nat→B)→Nat→B→(Nat→B)
 |0,m,_,_=>m
 |k+1,m,at_,data=>if data= []then m else
  k0J k (upd m (at_/4) (t0O (m (at_/4)) data (at_%4*64) (min data.length (256-at_%4*64)))) (at_+min data.length (256-at_%4*64)/64) (data.drop (min data.length (256-at_%4*64)))
def j0N (bits:Nat) (Os:List (Nat→B)):Nat→(Nat→B)→Nat→B→Prop
 |0,_,_,_=>False
 |k+1,m,at_,data=>data≠ []∧
  ((a0R (t0O (m (at_/4)) data (at_%4*64) (min data.length (256-at_%4*64)))=false∧x0Y (m::Os) bits (t0O (m (at_/4)) data (at_%4*64) (min data.length (256-at_%4*64))))∨
   j0N bits Os k (upd m (at_/4) (t0O (m (at_/4)) data (at_%4*64) (min data.length (256-at_%4*64)))) (at_+min data.length (256-at_%4*64)/64) (data.drop (min data.length (256-at_%4*64))))
section
variable {s:St} {G:Gh} {P:List Int}
theorem Inv.cget {x:Ent} {i:Nat} (h:Inv s G P) (a:a0W G 3 x.root) (hi:i<512):p0K x i s=(.ok (a0Z G x.root i),s):=by
 unfold Go.Sb.p0K;rw[a0A (h.rget 2 a i),h.leaf (h.leafKid 2 a i)];unfold a0Z;rw[if_pos hi]
theorem t1T {a data:B} {f n:Nat} (d:a.length=256) (c:n≤data.length) (b:f+n≤256):(t0O a data f n).length=256:=by
 unfold t0O;simp;omega
theorem Inv.patch (m0L:Nat) (J:16+g0H 2=m0L): ∀(n:Nat) (m:Nat) {s:St} {G:Gh} {P:List Int} {x:Ent} {at_:Nat} {data:B},Inv s G (x.root::P)→Idx s G→a0W G 3 x.root→(∀p∈P,a0W G 3 p)→(data.length=0∨at_%4*64+data.length≤256*m)→data.length%64=0→at_*64+data.length≤131072→d0J (m*m0L) s→P.length≤1000→
 (∃r s' G',j0S n x at_ data s=(.ok {x with root:=r},s')∧Inv s' G' (r::P)∧Stp (m*m0L) (m*8) s G s' G'∧a0W G' 3 r∧(∀p∈P,a0W G' 3 p∧a0Z G' p=a0Z G p)∧
  a0Z G' r=k0J n (a0Z G x.root) at_ data∧ ¬j0N s.bits (P.map (a0Z G)) n (a0Z G x.root) at_ data)∨
 Fl (m*8) (j0N s.bits (P.map (a0Z G)) n (a0Z G x.root) at_ data) (j0S n x at_ data) s
 |0,m,s,G,P,x,at_,data,h,hi,hroot,hP,_,_,_,_,_=>
  .inl ⟨x.root,s,G,rfl,h,(Stp.refl h hi).mono (by omega) (by omega),hroot,fun p c=>⟨hP p c,rfl⟩,rfl,id⟩
 |n+1,m,s,G,P,x,at_,data,h,hi,hroot,hP,hm,h64,hat,D,hPl=>by
  by_cases d:data= []
  ·refine .inl ⟨x.root,s,G,?_,h,(Stp.refl h hi).mono (by omega) (by omega),hroot,fun p c=>⟨hP p c,rfl⟩,?_,fun K=>K.1 d⟩
   ·unfold Go.Sb.j0S;rw[if_pos d];rfl
   ·unfold k0J;rw[if_pos d]
  ·have C:data.length≠0:=fun e=>d (List.eq_nil_of_length_eq_zero e);obtain⟨m,rfl⟩: ∃m',m=m'+1:=⟨m-1,by omega⟩;have y:d0J (m0L+m*m0L) s:=D.le (by rw[Nat.succ_mul];omega);have f:at_/4<512:=by omega
   have F:=h.cget hroot f;have E:=h.map_len hroot (at_/4);have w:(t0O (a0Z G x.root (at_/4)) data (at_%4*64) (min data.length (256-at_%4*64))).length=256:=t1T E (by omega) (by omega);have k: ∀r∈x.root::P,a0W G 3 r:=fun r D=>by
    rcases List.mem_cons.1 D with rfl|o
    ·exact hroot
    ·exact hP r o
   have t:=h.clash k s.bits (t0O (a0Z G x.root (at_/4)) data (at_%4*64) (min data.length (256-at_%4*64)));rcases h.cset (x:=x) (i:=at_/4) hi hroot f w (y.le (by omega)) (by omega)with ⟨r1,s1,G1,e2,i1,t1,k1,q1,c1⟩|A
   ·have j: ∀p∈P,a0W G1 3 p∧a0Z G1 p=a0Z G p:=fun p c=>by
     have C:p=0∨(a0C p G1).isSome=true:=if d:p=0 then .inl d else .inr (i1.pend (List.mem_cons_of_mem _ c) d)
     exact⟨h.kidSame t1.old (hP p c) C,h.mapKeep i1 t1.old (hP p c) C⟩
    have u:P.map (a0Z G1)=P.map (a0Z G):=List.map_congr_left fun p c=>(j p c).2;have l:(data.drop (min data.length (256-at_%4*64))).length=0∨(at_+min data.length (256-at_%4*64)/64)%4*64+(data.drop (min data.length (256-at_%4*64))).length≤256*m:=by rw[List.length_drop];omega
    have v:(data.drop (min data.length (256-at_%4*64))).length%64=0:=by simp;omega
    have q:(at_+min data.length (256-at_%4*64)/64)*64+(data.drop (min data.length (256-at_%4*64))).length≤131072:=by simp;omega
    have g:=Inv.patch m0L J n m (x:= {x with root:=r1}) (at_:=at_+min data.length (256-at_%4*64)/64) (data:=data.drop (min data.length (256-at_%4*64))) i1 t1.idx k1 (fun p c=>(j p c).1) l v q (y.go (t1.rel.mono (by omega) (Nat.le_refl _))) hPl;rw[u,show s1.bits=s.bits from t1.rel.bits]at g;simp only[q1]at g;have ep:Go.Sb.j0S (n+1) x at_ data s=Go.Sb.j0S n {x with root:=r1} (at_+min data.length (256-at_%4*64)/64) (data.drop (min data.length (256-at_%4*64))) s1:=by
     conv=>lhs;unfold Go.Sb.j0S
     rw[if_neg d];rw[a0A F];exact a0A e2
    rcases g with ⟨Q,R,H,I,L,S,M,p2,O,N⟩|A
    ·refine .inl ⟨Q,R,H,by rw[ep,I],L,(t1.trans S).mono (by rw[Nat.succ_mul];omega) (by rw[Nat.succ_mul];omega),M,fun p c=>⟨(p2 p c).1,(p2 p c).2.trans (j p c).2⟩,?_,?_⟩
     ·rw[O];conv=>rhs;unfold k0J
      rw[if_neg d]
     ·rintro⟨_,⟨hz,hc⟩|hn⟩
      ·exact c1 hz (t.2 hc)
      ·exact N hn
    ·obtain⟨e,s',o,z⟩:=A;refine .inr ⟨e,s',by rw[ep,o],z.imp (fun⟨a,b⟩=>⟨a,?_⟩) (fun⟨a,b⟩=>⟨a,d,.inr b⟩)⟩;have:=t1.rel.room;have:=t1.keep;rw[Nat.succ_mul];omega
   ·obtain⟨e,s',o,z⟩:=A;refine .inr ⟨e,s',?_,z.imp (fun⟨a,b⟩=>⟨a,by rw[Nat.succ_mul];omega⟩) (fun⟨a,hz,hc⟩=>⟨a,d,.inl ⟨hz,t.1 hc⟩⟩)⟩
    conv=>lhs;unfold Go.Sb.j0S
    rw[if_neg d];rw[a0A F];exact a0F o
def b1Y (m:Nat→B):Nat→Nat→Nat→B
 |0,_,_=> []
 |k+1,at_,n=>if n=0 then []else((m (at_/4)).drop (at_%4*64)).take (min n (4-at_%4)*64)++b1Y m k (at_+min n (4-at_%4)) (n-min n (4-at_%4))
theorem Inv.creads {x:Ent} (h:Inv s G P) (a:a0W G 3 x.root): ∀(k at_ n:Nat),at_+n≤2048→k0D k x at_ n s=(.ok (b1Y (a0Z G x.root) k at_ n),s)
 |0,_,_,_=>rfl
 |k+1,at_,n,hn=>by
  unfold Go.Sb.k0D b1Y;by_cases b:n=0
  ·rw[if_pos b,if_pos b];rfl
  ·rw[if_neg b,if_neg b];rw[a0A (h.cget a (by omega)),a0A (h.creads a k _ _ (by omega))];rfl
theorem Eqv.symm {s t:St} (h:Eqv s t):Eqv t s:=⟨h.fr.symm,h.g.symm,h.gone.symm,h.keep.symm,h.depth.symm,h.bits.symm,h.next.symm,h.epoch.symm,fun x=>(h.refs x).symm,fun x=>(h.young x).symm,fun x=>(h.index x).symm,fun x=>(h.vols x).symm⟩
theorem Inv.eqv (h:Inv s G P) {t:St} (q:Eqv t s) (j:MOK t) (c:t.d.armed=false∧t.d.dead=false) (b:t.d.l.length=s.d.l.length) (hd: ∀a:Nat,k0G s a∨n0A t.d a=n0A s.d a):Inv t G P:=by
 refine⟨⟨j,by rw[q.keep];exact h.u.keep,fun a i=> ?_,c,by rw[b,q.fr,q.g];exact h.u.size,by rw[q.gone,q.fr,q.g];exact h.u.late⟩,h.nod,by rw[q.fr];exact h.lo,by rw[q.fr,q.g];exact h.hi,fun a i=> ?_,h.live,h.zero,fun a=> ?_,fun a o f=> ?_,h.typ,by rw[q.g];exact h.cnt,h.lone⟩
 ·rw[q.fr,q.g];exact h.u.held a (by rw[←q.refs a];exact i)
 ·rw[q.refs a];exact h.refs a i
 ·rw[q.fr,q.g];exact h.held a
 ·rw[←h.disk a o f];rcases hd a.toNat with e|e
  ·have k:=h.range f;rw[show((a.toNat:Nat):Int)=a by omega]at e;rw[h.free_none e]at f;cases f
  ·exact e
theorem Idx.eqv (h:Idx s G) {t:St} (q:Eqv t s):Idx t G:=fun k a=>by rw[q.index k,q.bits];exact h k a
theorem Inv.undone (h:Inv s G P) (hi:Idx s G) (b:s.log= []) {t:St} {c k:Nat} (r:Rel c k s t):Inv (d0M s.log.length t) G P∧Idx (d0M s.log.length t) G∧Eqv (d0M s.log.length t) s∧(d0M s.log.length t).log= []:=by
 obtain⟨l,e,n,q⟩:=r.log;rw[b,List.nil_append]at e;have j:d0M s.log.length t= {e0O t l with log:= []} :=by
  unfold d0M;rw[b,e];rfl
 rw[j];have i:Eqv {e0O t l with log:= []} s:=⟨q.fr,q.g,q.gone,q.keep,q.depth,q.bits,q.next,q.epoch,q.refs,q.young,q.index,q.vols⟩;have hd:=(x0E t l).1;have f:=v0R r.ok.m l;refine⟨h.eqv i ⟨f.refs,f.young,f.index,f.vols⟩ ?_ ?_ ?_,hi.eqv i,i,rfl⟩
 ·show(e0O t l).d.armed=false∧(e0O t l).d.dead=false;rw[hd];exact r.ok.run
 ·show(e0O t l).d.l.length=_;rw[hd,r.ok.size,h.u.size,r.fr,r.glen]
 ·intro a;show k0G s a∨n0A (e0O t l).d a=_;rw[hd];exact r.disk a
end
end
inductive Car (α:Type) where
 |start
 |done (a:α)
 |lost
def f0P {α:Type} (m:M α):Run (St×Car α) Unit:=fun x=>match m x.1 with
 | (.ok a,t)=>(.ok (),(t,.done a))
 | (.err e,t)=>(.err e,(t,.lost))
 | (.big,t)=>(.big,(t,.lost))
def t1U {α:Type} (m:M α):Run (St×Car α) Int:=o0J (f0P m)
def i0K {α:Type} (m:M α):M (Int×Car α):=fun s=>match t1U m (s,.start)with
 | (.ok e,(t,c))=>(.ok (e,c),t)
 | (.err e,(t,_))=>(.err e,t)
 | (.big,(t,_))=>(.big,t)
def e0M {α:Type} (more:Nat) (m:M α):M α:=a0B (k0C more) fun _=>m
def b1Z {α:Type} (d:α):Car α→α
 | .done a=>a
 |_=>d
def h0J (x:Ent) (at_ n:Int):M Unit:=if 5000<x.size then fun s=>(.big,s)else l0U x at_ n
def k0K (made:M Ent):M (Int×Int):=fun s=>
 if 16≤s.vols.length then(.ok (0,13),s)else
 a0B (i0K (e0M 1 (a0B made u0I))) (fun r=>ret (if r.1=0 then(b1Z 0 r.2,0)else(0,r.1))) s
def f0T (size:Int):M (Int×Int):=if size<1∨2048<size then ret (0,4)else k0K (ret {g0L with size:=size})
def w0L (id:Int) (only:Bool):M Ent:=a0B (find id) fun x=>a0B (h0E x.root 3) fun _=>ret {g0L with parent:=id,only:=only,size:=x.size,root:=x.root}
def h0S (id:Int) (only:Bool):M (Int×Int):=fun s=>match a0C id s.vols with
 |none=>(.ok (0,5),s)
 |some _=>k0K (w0L id only) s
def i0X (id at_:Int) (data:B):M Unit:=a0B (l0Z id) fun x=>if data.length%64≠0 then n0L 4 else
 a0B (h0J x at_ (data.length/64:Nat)) fun _=>a0B (e0T x at_.toNat data) m0H
def h0K (id at_:Int) (data:B):M Int:=a0B (i0K (e0M 0 (i0X id at_ data))) fun r=>ret r.1
def o0S (id at_ n:Int):M B:=a0B (find id) fun x=>a0B (h0J x at_ n) fun _=>k0D n.toNat x at_.toNat n.toNat
def n0Y (id at_ n:Int):M (B×Int):=a0B (i0K (o0S id at_ n)) fun r=>ret (if r.1=0 then(b1Z [] r.2,0)else([],r.1))
section
theorem e1M (fr:Nat): ∀(l:List Int) (g:List Nat),l.Nodup→(∀a∈l,isB fr g a 2=true)→
 (l.foldl (fun g a=>mvL fr (mvL fr g a 2 1) a 1 0) g).length=g.length∧(∀x,isB fr (l.foldl (fun g a=>mvL fr (mvL fr g a 2 1) a 1 0) g) x 1=isB fr g x 1)∧
 (l.foldl (fun g a=>mvL fr (mvL fr g a 2 1) a 1 0) g).count 1=g.count 1∧g.count 0≤(l.foldl (fun g a=>mvL fr (mvL fr g a 2 1) a 1 0) g).count 0
 | [],g,_,_=>⟨rfl,fun _=>rfl,rfl,Nat.le_refl _⟩
 |a::l,g,hn,h2=>by
  rw[List.nodup_cons]at hn;have k:=h2 a (List.mem_cons_self ..);have c: ∀b x,isB fr (mvL fr g a 2 1) b x=if b=a then decide (1=x)else isB fr g b x:=fun b x=>l0F k
  have d:isB fr (mvL fr g a 2 1) a 1=true:=by rw[c,if_pos rfl];rfl
  have f: ∀b x,isB fr (mvL fr (mvL fr g a 2 1) a 1 0) b x=if b=a then decide (0=x)else isB fr (mvL fr g a 2 1) b x:=fun b x=>l0F d
  have h:=fun x=>q0S (x:=x) (w:=1) k;have i:=fun x=>q0S (x:=x) (w:=0) d;obtain⟨n,o,p,q⟩:=e1M fr l (mvL fr (mvL fr g a 2 1) a 1 0) hn.2 (fun b hb=>by
   have j:b≠a:=fun e=>hn.1 (e▸hb);rw[f,if_neg j,c,if_neg j];exact h2 b (List.mem_cons_of_mem _ hb))
  rw[List.foldl_cons];refine⟨by rw[n,l0Q,l0Q],fun x=> ?_,?_,?_⟩
  ·rw[o,f];split
   ·rename_i e;subst e;cases m:isB fr g x 1 with
    |false=>rfl
    |true=>exact absurd (a1N m k) (by decide)
   ·rename_i e;rw[c,if_neg e]
  ·rw[p];have:=h 1;have:=i 1;simp at*;omega
  ·have:=h 0;have:=i 0;simp at*;omega
def fin (t:St):St:=u0F {t with depth:=0,log:= []}
section
variable {s t:St} {G:Gh} {P:List Int}
theorem Inv.other (h:Inv s G P) (b:t.fr=s.fr) (c:t.g=s.g) (i:t.refs=s.refs) (hd:t.d=s.d) (f:t.gone=s.gone) (k:MOK t) (j:0≤t.keep):Inv t G P:=by
 refine⟨⟨k,j,fun a e=> ?_,by rw[hd];exact h.u.run,by rw[hd,b,c];exact h.u.size,by rw[f,b,c];exact h.u.late⟩,h.nod,by rw[b];exact h.lo,by rw[b,c];exact h.hi,fun a e=>by rw[i];exact h.refs a e,h.live,h.zero,fun a=>by rw[b,c];exact h.held a,
  fun a o l=>by rw[hd];exact h.disk a o l,h.typ,by rw[c];exact h.cnt,h.lone⟩
 rw[b,c];exact h.u.held a (by rw[←i];exact e)
theorem Inv.fin (h:Inv t G P):Inv (fin t) G P:=by
 obtain⟨c,e,f,i⟩:=e1M t.fr t.gone t.g h.u.late.1 h.u.late.2;refine⟨⟨⟨h.u.m.refs,h.u.m.young,h.u.m.index,h.u.m.vols⟩,h.u.keep,fun a b=> ?_,h.u.run,?_,⟨List.nodup_nil,by intro a b;cases b⟩⟩,h.nod,h.lo,?_,h.refs,h.live,h.zero,fun a=> ?_,h.disk,h.typ,?_,h.lone⟩
 ·exact(e a).trans (h.u.held a b)
 ·show t.d.l.length=t.fr+_;rw[h.u.size];exact congrArg _ c.symm
 ·show t.fr+_≤65535;have:=h.hi;exact(congrArg (t.fr+ ·) c)▸this
 ·refine Iff.trans ?_ (h.held a);rw[←e a];rfl
 ·exact h.cnt.trans f.symm
theorem x0Z (h:Inv t G P):a0Y t≤a0Y (fin t):=(e1M t.fr t.gone t.g h.u.late.1 h.u.late.2).2.2.2
theorem t1V (a:s.depth=0) (b:s.log= []) (c:s.gone= []):fin {s with depth:=1} =s:=by
 obtain⟨d,fr,g,refs,young,gone,keep,log,depth,bits,index,vols,next,epoch⟩:=s;simp only at a b c;subst a b c;rfl
def g0Q (s:St):List Int:=s.vols.map (·.2.root)
structure CI (s:St) (G:Gh):Prop where
 inv:Inv s G (g0Q s)
 idx:Idx s G
 kid: ∀p∈s.vols,a0W G 3 p.2.root
 ids: ∀p∈s.vols,p.2.id=p.1∧1≤p.2.size∧p.2.size≤2048
 dep:s.depth=0
 log:s.log= []
 gone:s.gone= []
 few:s.vols.length≤16
theorem CI.fin {t:St} (h:Inv t G (g0Q t)) (hi:Idx t G) (c: ∀p∈t.vols,a0W G 3 p.2.root) (a: ∀p∈t.vols,p.2.id=p.1∧1≤p.2.size∧p.2.size≤2048) (b:t.vols.length≤16):CI (fin t) G:=
 ⟨h.fin,hi,c,a,rfl,rfl,rfl,b⟩
def start (s:St) (more:Nat):St:= {s with depth:=1,log:= [.keep s.keep],keep:=(2*(s.vols.length+more):Nat)}
theorem CI.start (h:CI s G) (more:Nat):Inv (start s more) G (g0Q s)∧Idx (start s more) G:=
 ⟨h.inv.other rfl rfl rfl rfl rfl ⟨h.inv.u.m.refs,h.inv.u.m.young,h.inv.u.m.index,h.inv.u.m.vols⟩ (by show 0≤((2*(s.vols.length+more):Nat):Int);omega),h.idx⟩
theorem CI.deep (h:CI s G):Inv {s with depth:=1} G (g0Q s):=h.inv.other rfl rfl rfl rfl rfl ⟨h.inv.u.m.refs,h.inv.u.m.young,h.inv.u.m.index,h.inv.u.m.vols⟩ h.inv.u.keep
theorem CI.keepd (h:CI s G) (more:Nat):o0R (2*(s.vols.length+more:Nat)) {s with depth:=1} =(.ok (),Go.Sb.start s more):=by
 unfold o0R x0A a0B back;simp only[h.log,List.length_nil];rw[if_neg (by omega)];simp only[bk,Nat.zero_lt_one,if_true,List.nil_append];unfold Go.Sb.start;rw[show max (2*((s.vols.length+more:Nat):Int)) 0=((2*(s.vols.length+more):Nat):Int) by omega]
theorem CI.rel (h:CI s G) (more:Nat):Rel 1 0 {s with depth:=1} (Go.Sb.start s more):=by
 have:=o2R (2*(s.vols.length+more:Nat)) {s with depth:=1} Nat.zero_lt_one h.deep.u (by rw[h.keepd more];simp);rw[h.keepd more]at this;exact this
theorem CI.ahead (h:CI s G) {more:Nat} (b:more=0∨2*(s.vols.length+more)≤a0Y s):k0C more {s with depth:=1} =(.ok (),Go.Sb.start s more):=by
 unfold Go.Sb.k0C;rw[a0A (h.keepd more)];rw[if_neg];rintro⟨h1,h2⟩;have a:a0Y (Go.Sb.start s more)=a0Y s:=rfl;simp only at h2;rw[a]at h2;omega
theorem CI.roomC (h:CI s G) {α:Type} {m:M α} {more:Nat} (a:more=0∨2*(s.vols.length+more)≤a0Y s):e0M more m {s with depth:=1} =m (Go.Sb.start s more):=a0A (h.ahead a)
theorem h1R (h:CI s G) {c:Nat} (a:c≤1000000) (more:Nat):d0J c (Go.Sb.start s more):=⟨Nat.zero_lt_one,by show 1+c+10<_;omega,by show s.gone.length+c+10<_;rw[h.gone];simp;omega⟩
theorem q0U {α:Type} {m:M α} (h:CI s G) {a:α} {c k:Nat} (e:m {s with depth:=1} =(.ok a,t)) (r:Rel c k {s with depth:=1} t):i0K m s=(.ok (0,.done a),fin t):=by
 have hd:t.depth=1:=r.depth;have b:o0I (f0P m) (s,.start)=(.ok 0,(k0T t,.done a)):=by
  unfold o0I;simp only;rw[if_neg (by rw[h.dep];omega)];rw[show({s with depth:=s.depth+1} :St)= {s with depth:=1} by rw[h.dep]];unfold f0P;simp only[e];rw[if_neg (by omega)]
 unfold i0K t1U o0J;rw[a0A b];simp only;have d:k0T t= {t with depth:=0,log:= []} :=by unfold k0T;rw[if_pos hd]
 rw[d,if_pos rfl];rfl
theorem c1A {α:Type} {m:M α} (h:CI s G) {er:Int} {c k:Nat} (e:m {s with depth:=1} =(.err er,t)) (d:er≠0) (r:Rel c k {s with depth:=1} t):i0K m s=(.ok (er,.lost),fin (d0M 0 t)):=by
 have hd:t.depth=1:=r.depth;have b:(d0M 0 t).depth=1:=by
  obtain⟨l,a,n,q⟩:=r.log;have f:({s with depth:=1} :St).log= []:=h.log;rw[f,List.nil_append]at a;have:(e0O t l).depth=1:=q.depth;unfold d0M;rw[List.drop_zero,a];exact this
 have a:o0I (f0P m) (s,.start)=(.ok er,(k0T (d0M 0 t),.lost)):=by
  unfold o0I;simp only;rw[if_neg (by rw[h.dep];omega)];rw[show({s with depth:=s.depth+1} :St)= {s with depth:=1} by rw[h.dep]];unfold f0P;simp only[e];rw[if_neg (by rintro(h1|h1);(· omega);(· exact d h1)),h.log];rfl
 unfold i0K t1U o0J;rw[a0A a];simp only;have f:k0T (d0M 0 t)= {d0M 0 t with depth:=0,log:= []} :=by unfold k0T;rw[if_pos b]
 rw[f,if_pos rfl];rfl
theorem CI.undone (h:CI s G) {c k:Nat} (r:Rel c k {s with depth:=1} t):CI (Go.Sb.fin (d0M 0 t)) G∧(Go.Sb.fin (d0M 0 t)).vols.Perm s.vols∧meq (Go.Sb.fin (d0M 0 t)).vols s.vols∧(Go.Sb.fin (d0M 0 t)).bits=s.bits∧(Go.Sb.fin (d0M 0 t)).next=s.next∧(Go.Sb.fin (d0M 0 t)).epoch=s.epoch∧a0Y s≤a0Y (Go.Sb.fin (d0M 0 t)):=by
 have a:({s with depth:=1} :St).log= []:=h.log;obtain⟨e,i,q,_⟩:=h.deep.undone (show Idx {s with depth:=1} G from h.idx) a r;rw[show({s with depth:=1} :St).log.length=0 by rw[a];rfl]at e i q;have d:(d0M 0 t).vols.Perm s.vols:=o2O e.u.m.vols h.inv.u.m.vols q.vols;have f:Inv (d0M 0 t) G (g0Q (d0M 0 t)):=e.perm fun x _=>((d.map (fun p:Int×Ent=>p.2.root)).count_eq x).symm;refine⟨CI.fin f i (fun p b=>h.kid p (d.mem_iff.1 b)) (fun p b=>h.ids p (d.mem_iff.1 b)) (by rw[d.length_eq];exact h.few),d,q.vols,q.bits,q.next,q.epoch,?_⟩;have j:=x0Z e;have l:a0Y (d0M 0 t)=a0Y s:=by unfold a0Y;rw[q.g]
 omega
end
end
section
theorem j1H {K V:Type} [DecidableEq K] {k:K} {v:V} : ∀ {m:List (K×V)},a0C k m=none→b0O k v m=m++ [(k,v)]
 | [],_=>rfl
 | (j,u)::m,h=>by
  unfold a0C at h;split at h
  ·cases h
  ·rename_i e;unfold b0O;rw[if_neg e,j1H h];rfl
theorem j1I {K V:Type} [DecidableEq K] {k j:K} {v:V} : ∀ {m:List (K×V)},a0C k (m++ [(j,v)])=match a0C k m with|some u=>some u|none=>if j=k then some v else none
 | []=>rfl
 | (i,u)::m=>by
  show(if i=k then some u else a0C k (m++ [(j,v)]))=match (if i=k then some u else a0C k m)with|some u=>some u|none=>if j=k then some v else none
  split
  ·rfl
  ·exact j1I
section
variable {s t:St} {G:Gh} {P:List Int}
def e2K (x:Ent) (t:St):Ent:= {x with id:=t.next,born:=t.epoch}
def v0I (x:Ent) (t:St):St:= {t with log:=bk t.depth (bk t.depth t.log (.next t.next)) (.vols t.next (a0C t.next t.vols)),next:=m0Z (t.next+1),vols:=b0O t.next (e2K x t) t.vols}
theorem o1G (x:Ent) {t:St} (b:t.log.length<999999990):u0I x t=(.ok t.next,v0I x t):=by
 have a:(bk t.depth t.log (.next t.next)).length<1000000000:=by
  unfold bk;split
  ·rw[List.length_append,List.length_singleton];omega
  ·omega
 unfold u0I p0Y m0H s0R a0B back;simp only;rw[if_neg (by omega)];simp only;rw[if_neg (by omega)];rfl
theorem j2J (h:Inv t G P) (x:Ent):Inv (v0I x t) G P:=h.other rfl rfl rfl rfl rfl ⟨h.u.m.refs,h.u.m.young,h.u.m.index,k0E _ _ h.u.m.vols⟩ h.u.keep
theorem j2K (h:Inv t G P) (x:Ent) (hd:0<t.depth) (a:t.log.length<999999990):Rel 2 0 t (v0I x t):=by
 have:=t2W x t hd h.u (by rw[o1G x a];simp);rw[o1G x a]at this;exact this
theorem CI.more (h:CI s G) {made:M Ent} {x:Ent} {u:St} {c k:Nat} (t:s.vols.length<16) (w:a0C s.next s.vols=none) (i:2*(s.vols.length+1)≤a0Y s)
 (e:made (Go.Sb.start s 1)=(.ok x,u)) (hi:Inv u G (x.root::g0Q s)) (B:Idx u G) (l:Rel c k (Go.Sb.start s 1) u) (E:c≤1000000) (A:u.vols=s.vols) (g:u.next=s.next) (v:a0W G 3 x.root) (z:1≤x.size∧x.size≤2048):
 ∃s',k0K made s=(.ok (s.next,0),s')∧CI s' G∧s'.vols=s.vols++ [(s.next,{x with id:=s.next,born:=s.epoch})]∧s'.next=m0Z (s.next+1)∧s'.epoch=s.epoch∧s'.bits=s.bits∧a0Y s≤a0Y s'+k:=by
 have hd:u.depth=1:=l.depth;have j:u.epoch=s.epoch:=l.epoch;have f:u.log.length<999999990:=by have:=l.len;have r:(Go.Sb.start s 1).log.length=1:=rfl;omega
 have o:Go.Sb.e0M 1 (a0B made u0I) {s with depth:=1} =(.ok u.next,v0I x u):=by
  rw[h.roomC (.inr i),a0A e,o1G x f]
 have n:Rel (1+(c+2)) (0+(k+0)) {s with depth:=1} (v0I x u):=(h.rel 1).trans (l.trans (j2K hi x (by omega) f));have q:=q0U h o n;have a:(v0I x u).vols=s.vols++ [(s.next,{x with id:=s.next,born:=s.epoch})]:=by
  show b0O u.next (e2K x u) u.vols=_;unfold e2K;rw[A,g,j,j1H w]
 have d:g0Q (v0I x u)=g0Q s++ [x.root]:=by unfold g0Q;rw[a,List.map_append];rfl
 have m:Inv (v0I x u) G (g0Q (v0I x u)):=by
  rw[d];exact(j2J hi x).perm fun y _=>by rw[List.count_append,List.count_cons,List.count_singleton,Nat.add_comm]
 refine⟨Go.Sb.fin (v0I x u),?_,CI.fin m B (fun p b=> ?_) (fun p b=> ?_) ?_,a,?_,j,l.bits,?_⟩
 ·unfold k0K;rw[if_neg (by omega),a0A q];simp only[b1Z,if_true];rw[g];rfl
 ·rw[a]at b;rcases List.mem_append.1 b with b|b
  ·exact h.kid p b
  ·rw[List.mem_singleton.1 b];exact v
 ·rw[a]at b;rcases List.mem_append.1 b with b|b
  ·exact h.ids p b
  ·rw[List.mem_singleton.1 b];exact⟨rfl,z⟩
 ·rw[a];simp;omega
 ·show m0Z (u.next+1)=_;rw[g]
 ·have r:=n.room;have C:=x0Z m;have D:a0Y ({s with depth:=1} :St)=a0Y s:=rfl;omega
theorem CI.create (h:CI s G) {size:Int} (f:1≤size∧size≤2048) (b:s.vols.length<16) (d:a0C s.next s.vols=none) (a:2*(s.vols.length+1)≤a0Y s):
 ∃s',f0T size s=(.ok (s.next,0),s')∧CI s' G∧s'.vols=s.vols++ [(s.next,{g0L with size:=size,id:=s.next,born:=s.epoch})]∧s'.next=m0Z (s.next+1)∧s'.epoch=s.epoch∧s'.bits=s.bits∧a0Y s≤a0Y s':=by
 obtain⟨c,g⟩:=h.start 1;have e:f0T size s=k0K (ret {g0L with size:=size}) s:=by unfold f0T;rw[if_neg (by omega)]
 rw[e];exact h.more b d a (made:=ret {g0L with size:=size}) rfl c.add0 g (Rel.refl c.u) (by omega) rfl rfl (.inl rfl) f
theorem CI.copy (h:CI s G) {id:Int} {only:Bool} {x:Ent} (n:a0C id s.vols=some x) (g:s.vols.length<16) (q:a0C s.next s.vols=none) (b:2*(s.vols.length+1)≤a0Y s):
 ∃s',h0S id only s=(.ok (s.next,0),s')∧CI s' G∧s'.vols=s.vols++ [(s.next,{g0L with parent:=id,only:=only,size:=x.size,root:=x.root,id:=s.next,born:=s.epoch})]∧s'.next=m0Z (s.next+1)∧s'.epoch=s.epoch∧s'.bits=s.bits∧a0Y s≤a0Y s':=by
 obtain⟨o,E⟩:=h.start 1;have f:(id,x)∈s.vols:=(e0D h.inv.u.m.vols).1 n;have j:=h.kid _ f;have d:=h.ids _ f;have e:h0S id only s=k0K (w0L id only) s:=by unfold h0S;rw[n]
 rw[e];have p:find id (Go.Sb.start s 1)=(.ok x,Go.Sb.start s 1):=by unfold find;rw[show a0C id (Go.Sb.start s 1).vols=some x from n]
 by_cases i:x.root=0
 ·refine h.more (u:=Go.Sb.start s 1) (c:=0) (k:=0) g q b (x:= {g0L with parent:=id,only:=only,size:=x.size,root:=x.root}) ?_ ?_ E (Rel.refl o.u) (by omega) rfl rfl j d.2
  ·unfold w0L;rw[a0A p];unfold h0E;rw[if_pos i];rfl
  ·rw[i];exact o.add0
 ·rcases j with j| ⟨z,D,r⟩
  ·exact(i j).elim
  ·obtain⟨u,v,y,t,A,F,B,C⟩:=o.more r (fun _ e=>by cases e) Nat.zero_lt_one (by show 1<1000000000;omega) (by unfold g0Q;rw[List.length_map];have:=h.few;omega);have l:u.bits=s.bits:=t.bits;refine h.more (u:=u) (c:=1) (k:=0) g q b (x:= {g0L with parent:=id,only:=only,size:=x.size,root:=x.root}) ?_ y (fun k a=>by rw[A,l];exact h.idx k a) t (by omega) B C (.inr ⟨z,D,r⟩) d.2;unfold w0L;rw[a0A p];have w:h0E x.root 3 (Go.Sb.start s 1)=(.ok (),u):=by unfold h0E;rw[if_neg i,if_neg (by decide)];exact v
   rw[a0A w];rfl
end
end
section
section
variable {K V:Type} [DecidableEq K]
theorem p0D {k:K} {v:V} : ∀ {m:List (K×V)},a0C k m=some v→m.Perm ((k,v)::b0D k m)
 | [],h=>by cases h
 | (j,u)::m,h=>by
  unfold a0C at h;unfold b0D;split at h
  ·rename_i e;subst e;cases h;rw[if_pos rfl]
  ·rename_i e;rw[if_neg e];exact(List.Perm.cons _ (p0D h)).trans (List.Perm.swap _ _ _)
theorem v0T {k:K} {v w:V} : ∀ {m:List (K×V)},a0C k m=some v→(b0O k w m).Perm ((k,w)::b0D k m)
 | [],h=>by cases h
 | (j,u)::m,h=>by
  unfold a0C at h;unfold b0D b0O;split at h
  ·rename_i e;rw[if_pos e,if_pos e]
  ·rename_i e;rw[if_neg e,if_neg e];exact(List.Perm.cons _ (v0T h)).trans (List.Perm.swap _ _ _)
theorem n0Z {k:K} {p:K×V} : ∀ {m:List (K×V)},p∈b0D k m→p∈m
 | [],h=>h
 | (j,u)::m,h=>by
  unfold b0D at h;split at h
  ·exact List.mem_cons_of_mem _ h
  ·rcases List.mem_cons.1 h with h|h
   ·rw[h];exact List.mem_cons_self ..
   ·exact List.mem_cons_of_mem _ (n0Z h)
end
def m0L:Nat:=16+g0H 2
theorem z0C:m0L≤12666:=by decide
section
variable {s t:St} {G:Gh} {P:List Int}
def o0A (s:St) (G:Gh) (id:Int):List (Nat→B):=(b0D id s.vols).map fun p=>a0Z G p.2.root
def o0B (id:Int) (y:Ent) (t:St):St:= {t with log:=bk t.depth t.log (.vols id (a0C id t.vols)),vols:=b0O id y t.vols}
theorem x0I {y:Ent} {t:St} (a:t.log.length<1000000000):m0H y t=(.ok (),o0B y.id y t):=by
 unfold m0H s0R a0B back;simp only;rw[if_neg (by omega)];rfl
theorem h1S {x:Ent} {a n:Nat} (h:a+n≤x.size) (b:x.size≤2048) (s:St):h0J x a n s=(.ok (),s):=by
 unfold h0J l0U;rw[if_neg (by omega),if_neg (by omega)];rfl
theorem CI.write (h:CI s G) {id:Int} {x:Ent} {at_ m:Nat} {data:B} (H:a0C id s.vols=some x) (Z:x.only=false) (hm:data.length=64*m) (X:at_+m≤x.size) (M:2*s.vols.length+m*8≤a0Y s)
 (i:m≤70) (K: ¬j0N s.bits (o0A s G id) data.length (a0Z G x.root) at_ data):
 ∃s' G' r,h0K id at_ data s=(.ok 0,s')∧CI s' G'∧s'.vols=b0O id {x with root:=r} s.vols∧a0Z G' r=k0J data.length (a0Z G x.root) at_ data∧(∀p∈b0D id s.vols,a0Z G' p.2.root=a0Z G p.2.root)∧
  s'.next=s.next∧s'.epoch=s.epoch∧s'.bits=s.bits∧a0Y s≤a0Y s'+m*8:=by
 obtain⟨i1,x1⟩:=h.start 0;have j:(id,x)∈s.vols:=(e0D h.inv.u.m.vols).1 H;have g:x.id=id∧1≤x.size∧x.size≤2048:=h.ids _ j;have L:=p0D H;have P:=z0C;have Q:(b0D id s.vols).length≤16:=by have A:=L.length_eq;simp only[List.length_cons]at A;have:=h.few;omega
 have f:Inv (Go.Sb.start s 0) G (x.root::(b0D id s.vols).map (·.2.root)):=i1.perm fun y _=>((L.map (fun p:Int×Ent=>p.2.root)).count_eq y);have l:l0Z id (Go.Sb.start s 0)=(.ok x,Go.Sb.start s 0):=by
  unfold l0Z;rw[a0A (show find id (Go.Sb.start s 0)=(.ok x,Go.Sb.start s 0) by unfold find;rw[show a0C id (Go.Sb.start s 0).vols=some x from H])];rw[if_neg (by simp[Z])];rfl
 have n:((b0D id s.vols).map (·.2.root)).map (a0Z G)=o0A s G id:=by rw[List.map_map];rfl
 have k:=Inv.patch m0L rfl data.length m (x:=x) (at_:=at_) (data:=data) f x1 (h.kid _ j) (fun p a=>by obtain⟨q,D,rfl⟩:=List.mem_map.1 a;exact h.kid _ (n0Z D)) (by omega) (by omega) (by omega)
  (h1R h (by have:=Nat.mul_le_mul i P;omega) 0) (by rw[List.length_map];omega)
 rw[n]at k;have e0:Go.Sb.e0M 0 (i0X id at_ data) {s with depth:=1} =a0B (e0T x at_ data) m0H (Go.Sb.start s 0):=by
  rw[h.roomC (.inl rfl)];unfold i0X;rw[a0A l,if_neg (by omega),show((data.length/64:Nat):Int)=(m:Nat) by omega,a0A (h1S (by omega) (by omega) _),Int.toNat_natCast]
 rcases k with ⟨r,u,G',J,t,v,k2,k3,m2,_⟩| ⟨e,u,J,Y⟩
 ·obtain⟨y,E⟩: ∃y:Ent,y= {x with root:=r} :=⟨_,rfl⟩;have d:y.id=id:=by rw[E];exact g.1
  have F:y.root=r:=by rw[E]
  have N:1≤y.size∧y.size≤2048:=by rw[E];exact g.2
  rw[←E]at J;have hd:u.depth=1:=v.rel.depth;have c:u.log.length<1000000000:=by have:=v.rel.len;have A:(Go.Sb.start s 0).log.length=1:=rfl;have:=Nat.mul_le_mul i P;omega
  have hu:u.vols=s.vols:=v.vols;have S:Go.Sb.e0M 0 (i0X id at_ data) {s with depth:=1} =(.ok (),o0B id y u):=by
   rw[e0,a0A (show e0T x at_ data (Go.Sb.start s 0)=_ from J),x0I c];rw[d]
  have r2:Rel 1 0 u (o0B id y u):=by
   have:=x0G y u (by omega) t.u (by rw[x0I c];simp);rw[x0I c,d]at this;exact this
  have I:=(h.rel 0).trans (v.rel.trans r2);have T:=q0U h S I;have b:(o0B id y u).vols=b0O id y s.vols:=by show b0O _ _ u.vols=_;rw[hu]
  have o:=v0T (w:=y) H;have i3:Inv (o0B id y u) G' (r::(b0D id s.vols).map (·.2.root)):=t.other rfl rfl rfl rfl rfl ⟨t.u.m.refs,t.u.m.young,t.u.m.index,k0E _ _ t.u.m.vols⟩ t.u.keep;have R:Inv (o0B id y u) G' (g0Q (o0B id y u)):=by
   unfold g0Q;rw[b];exact i3.perm fun z _=>by rw[(o.map (fun p:Int×Ent=>p.2.root)).count_eq z,List.map_cons,F]
  have C: ∀p∈(o0B id y u).vols,p=(id,y)∨p∈b0D id s.vols:=fun p a=>by
   rw[b]at a;exact List.mem_cons.1 (o.mem_iff.1 a)
  refine⟨Go.Sb.fin (o0B id y u),G',r,?_,CI.fin R v.idx (fun p a=> ?_) (fun p a=> ?_) ?_,by rw[←E];exact b,m2,fun p a=> ?_,?_,I.epoch,I.bits,?_⟩
  ·unfold h0K;rw[a0A T];rfl
  ·rcases C p a with rfl|D
   ·show a0W G' 3 y.root;rw[F];exact k2
   ·exact(k3 _ (List.mem_map.2 ⟨p,D,rfl⟩)).1
  ·rcases C p a with rfl|D
   ·exact⟨d,N⟩
   ·exact h.ids _ (n0Z D)
  ·rw[b,o.length_eq];simp only[List.length_cons];have A:=L.length_eq;simp only[List.length_cons]at A;have:=h.few;omega
  ·exact(k3 _ (List.mem_map.2 ⟨p,a,rfl⟩)).2
  ·exact v.next
  ·have A:=I.room;have h2:=x0Z R;have O:a0Y ({s with depth:=1} :St)=a0Y s:=rfl;omega
 ·rcases Y with ⟨_,V⟩| ⟨_,W⟩
  ·exfalso;have O:a0Y (Go.Sb.start s 0)=a0Y s:=rfl;have U:(Go.Sb.start s 0).keep=((2*(s.vols.length+0):Nat):Int):=rfl;rw[O,U]at V;omega
  ·exact(K W).elim
theorem CI.writeErr (h:CI s G) {id at_:Int} {data:B} {er:Int} {t:St} {c k:Nat} (e:i0X id at_ data (Go.Sb.start s 0)=(.err er,t)) (a:er≠0) (r:Rel c k (Go.Sb.start s 0) t):
 ∃s',h0K id at_ data s=(.ok er,s')∧CI s' G∧s'.vols.Perm s.vols∧meq s'.vols s.vols∧s'.bits=s.bits∧s'.next=s.next∧s'.epoch=s.epoch∧a0Y s≤a0Y s':=by
 have e0:Go.Sb.e0M 0 (i0X id at_ data) {s with depth:=1} =(.err er,t):=by rw[h.roomC (.inl rfl)];exact e
 have b:=(h.rel 0).trans r;obtain⟨d,f,g,u4,i,j,l⟩:=h.undone b;refine⟨_,?_,d,f,g,u4,i,j,l⟩;unfold h0K;rw[a0A (c1A h e0 a b)];rfl
theorem CI.read (h:CI s G) {id:Int} {x:Ent} {at_ n:Nat} (c:a0C id s.vols=some x) (d:at_+n≤x.size):n0Y id at_ n s=(.ok (b1Y (a0Z G x.root) n at_ n,0),s):=by
 have a:(id,x)∈s.vols:=(e0D h.inv.u.m.vols).1 c;have b:x.id=id∧1≤x.size∧x.size≤2048:=h.ids _ a;have e0:o0S id at_ n {s with depth:=1} =(.ok (b1Y (a0Z G x.root) n at_ n),{s with depth:=1}):=by
  unfold o0S;rw[a0A (show find id {s with depth:=1} =(.ok x,{s with depth:=1}) by unfold find;rw[show a0C id ({s with depth:=1} :St).vols=some x from c])];rw[a0A (h1S (by omega) (by omega) _),Int.toNat_natCast,Int.toNat_natCast];exact h.deep.creads (h.kid _ a) _ _ _ (by omega)
 unfold n0Y;rw[a0A (q0U h e0 (Rel.refl h.deep.u)),t1V h.dep h.log h.gone];rfl
theorem CI.new {n bits:Nat} (m:n≤60000):CI (f0X (k0Q (n+2)) 2 bits 1) []:=by
 have c:(f0X (k0Q (n+2)) 2 bits 1).g=List.replicate n 0:=by simp[f0X,k0Q]
 have f:(List.replicate n 0).count 1=0:=by rw[List.count_replicate];simp
 have l: ∀a,isB 2 (List.replicate n 0) a 1=false:=fun a=>by
  cases hb:isB 2 (List.replicate n 0) a 1 with
  |false=>rfl
  |true=>
   have:=(n0O.1 hb).2.2;rw[List.getElem?_replicate]at this;split at this<;>simp at this
 have hu:UOK (f0X (k0Q (n+2)) 2 bits 1):=⟨⟨List.nodup_nil,List.nodup_nil,List.nodup_nil,List.nodup_nil⟩,Int.le_refl _,fun a e=>(e rfl).elim,⟨rfl,rfl⟩,(by rw[c];simp[f0X,k0Q];omega),⟨List.nodup_nil,(by intro a e;cases e)⟩⟩;refine⟨⟨hu,List.nodup_nil,rfl,(by rw[c];show 2+_≤_;simp;omega),fun a _=>rfl,fun a _=> ?_,rfl,fun a=> ?_,fun a o i=>(by cases i),fun a o i=>(by cases i),?_,fun a b h=>(by cases h)⟩,fun k a=> ?_,fun p j=>(by cases j),fun p j=>(by cases j),rfl,rfl,rfl,(by show 0≤16;omega)⟩
 ·exact⟨fun h=>(h rfl).elim,fun h=>(by cases h)⟩
 ·rw[c];show isB 2 _ a 1=true↔_;rw[l a];exact⟨fun h=>(by cases h),fun h=>(by cases h)⟩
 ·rw[c,f];rfl
 ·exact⟨fun h=>(by cases h),fun⟨d,ats,h,_⟩=>(by cases h)⟩
end
end
end Go.Sb
namespace Go.Sb.Sha
def b2M {α:Type} (n:Nat) (k:Nat→α):α:=match n with
 |0=>k 0
 |m+1=>k (m+1)
theorem e2L {α:Type} (n:Nat) (k:Nat→α):b2M n k=k n:=by cases n<;>rfl
def st {α:Type} (x:W) (k:W→α):α:=b2M x.toNat fun n=>k (BitVec.ofNat 32 n)
theorem s1D {α:Type} (x:W) (k:W→α):st x k=k x:=by unfold st;rw[e2L];simp
def go:List W→W→W→W→W→W→W→W→W→List W
 | [],a,b,c,d,e,f,g,h=> [a,b,c,d,e,f,g,h]
 |x::l,a,b,c,d,e,f,g,h=>
  st (h+x+t1 e+(e &&& f ^^^ ~~~e &&& g)) fun t=>st (d+t) fun j=>st (t+(t0 a+(a &&& b ^^^ a &&& c ^^^ b &&& c))) fun i=>go l i a b c j e f g
def wk (b:List UInt8):List W:=List.zipWith (· + ·) e0N (k0U b)
def j1J (v:List W) (x:W):List W:=
 let e:=at_ v 4;let a:=at_ v 0
 let t:=at_ v 7+x+t1 e+(e &&& at_ v 5 ^^^ ~~~e &&& at_ v 6)
 let u:=t0 a+(a &&& at_ v 1 ^^^ a &&& at_ v 2 ^^^ at_ v 1 &&& at_ v 2)
 [t+u,a,at_ v 1,at_ v 2,at_ v 3+t,e,at_ v 5,at_ v 6]
theorem u2B (v:List W) (k w:W):rnd v k w=j1J v (k+w):=by unfold rnd j1J;simp only[BitVec.add_assoc]
theorem s2K: ∀(l:List W) (a b c d e f g h:W),go l a b c d e f g h=l.foldl j1J [a,b,c,d,e,f,g,h]
 | [],a,b,c,d,e,f,g,h=>rfl
 |x::l,a,b,c,d,e,f,g,h=>by
  unfold go;rw[s1D,s1D,s1D,s2K,List.foldl_cons];rfl
theorem b2N (w v:List W): ∀n,n≤64→64≤w.length→j0U w v n=((List.zipWith (· + ·) e0N w).take n).foldl j1J v
 |0,_,_=>rfl
 |n+1,h,hw=>by
  have a:e0N.length=64:=rfl;have b:n<(List.zipWith (· + ·) e0N w).length:=by rw[List.length_zipWith];omega
  rw[List.take_succ,List.getElem?_eq_getElem b,List.foldl_append,←b2N w v n (by omega) hw];show rnd (j0U w v n) (at_ e0N n) (at_ w n)=j1J _ _;rw[u2B];congr 1;unfold at_;rw[List.getElem_zipWith,List.getD_eq_getElem?_getD,List.getD_eq_getElem?_getD,List.getElem?_eq_getElem (by omega),List.getElem?_eq_getElem (by omega)];rfl
theorem s0J: ∀(n:Nat) (w:List W),(more n w).length=w.length+n
 |0,w=>rfl
 |n+1,w=>by unfold more;rw[s0J n];simp;omega
theorem p1W (b:List UInt8):(k0U b).length=64:=by unfold k0U f0S;rw[s0J];simp
def k0R (h l:List W):List W:=List.zipWith (· + ·) h (l.foldl j1J h)
theorem j2L (h:List W) (b:List UInt8):mix h b=k0R h (wk b):=by
 have a:e0N.length=64:=rfl;unfold mix k0R wk;rw[b2N _ _ 64 (Nat.le_refl _) (by rw[p1W];exact Nat.le_refl _),List.take_of_length_le (by rw[List.length_zipWith];omega)]
def c1B {α:Type} (h l:List W) (k:List W→List α):List α:=match h with
 | [a,b,c,d,e,f,g,i]=>match go l a b c d e f g i with
  | [a',b',c',d',e',f',g',i']=>st (a+a') fun a=>st (b+b') fun b=>st (c+c') fun c=>st (d+d') fun d=>st (e+e') fun e=>st (f+f') fun f=>st (g+g') fun g=>st (i+i') fun i=>k [a,b,c,d,e,f,g,i]
  |_=> []
 |_=> []
theorem p1X (l:List W): ∀(v:List W),v.length=8→(l.foldl j1J v).length=8:=by
 induction l with
 |nil=>intro v h;exact h
 |cons x l ih=>intro v h;exact ih _ rfl
theorem s1E {α:Type} : ∀(l:List α),l.length=8→ ∃a b c d e f g h,l= [a,b,c,d,e,f,g,h]
 | [a,b,c,d,e,f,g,h],_=>⟨a,b,c,d,e,f,g,h,rfl⟩
theorem h0A {h l:List W} (a:h.length=8):(k0R h l).length=8:=by unfold k0R;rw[List.length_zipWith,p1X l h a,a];rfl
theorem o0X {α:Type} {h l:List W} (j:h.length=8) (k:List W→List α):c1B h l k=k (k0R h l):=by
 have m:=p1X l h j;obtain⟨a,b,c,d,e,f,g,i,rfl⟩:=s1E h j;unfold k0R;unfold c1B;simp only;rw[s2K];obtain⟨o,p,c',q,r,s,t,u,n⟩:=s1E _ m;rw[n];simp only[s1D,List.zipWith_cons_cons,List.zipWith_nil_left]
def w0:List W:= [1116352408#32,1899447441#32,3049323471#32,3921009573#32,961987163#32,1508970993#32,2453635748#32,2870763221#32,3624381080#32,310598401#32,607225278#32,1426881987#32,1925078388#32,2162078206#32,2614888103#32,3248222580#32,3835390401#32,4022224774#32,264347078#32,604807628#32,770255983#32,1249150122#32,1555081692#32,1996064986#32,2554220882#32,2821834349#32,2952996808#32,3210313671#32,3336571891#32,3584528711#32,113926993#32,338241895#32,666307205#32,773529912#32,1294757372#32,1396182291#32,1695183700#32,1986661051#32,2177026350#32,2456956037#32,2730485921#32,2820302411#32,3259730800#32,3345764771#32,3516065817#32,3600352804#32,4094571909#32,275423344#32,430227734#32,506948616#32,659060556#32,883997877#32,958139571#32,1322822218#32,1537002063#32,1747873779#32,1955562222#32,2024104815#32,2227730452#32,2361852424#32,2428436474#32,2756734187#32,3204031479#32,3329325298#32]
def w1:List W:= [1133195417#32,1916290450#32,3066166480#32,3937852582#32,978830172#32,1525814002#32,2470478757#32,2887606230#32,3641224089#32,327441410#32,624068287#32,1443724996#32,1941921397#32,2178921215#32,2631731112#32,3265065589#32,3382750981#32,3569585354#32,1582936477#32,1923397027#32,2110814574#32,2589708713#32,4043884060#32,4015384925#32,3459532953#32,4135387620#32,2269421627#32,1298861131#32,3979148651#32,2773771155#32,2837752842#32,45601321#32,2359728791#32,257968678#32,128202080#32,499975457#32,3295403810#32,3767750719#32,2936976636#32,4012566421#32,1813556566#32,2671037753#32,1528772788#32,4249992266#32,3123706547#32,3770506850#32,1350679377#32,1002245952#32,3016296585#32,1122779281#32,4258981106#32,2791365580#32,1927562864#32,2229998207#32,3591167994#32,464652048#32,3318886517#32,1896791069#32,2771517833#32,4032135724#32,275376738#32,725137816#32,903905101#32,1486194156#32]
def w2:List W:= [1150038426#32,1933133459#32,3083009489#32,3954695591#32,995673181#32,1542657011#32,2487321766#32,2904449239#32,3658067098#32,344284419#32,640911296#32,1460568005#32,1958764406#32,2195764224#32,2648574121#32,3281908598#32,2930111562#32,3116945935#32,2897331572#32,3237792122#32,3451361062#32,3930255201#32,3718529576#32,3220548013#32,2820640546#32,1615505226#32,2366379135#32,1380589179#32,1500484750#32,973756250#32,201810910#32,173434379#32,1923619370#32,1450592922#32,1787701321#32,1522187192#32,974114816#32,2366238110#32,2794782199#32,572494234#32,3426031149#32,3939998204#32,925616642#32,913473001#32,789112016#32,2383206471#32,3805508600#32,3282570650#32,3944913353#32,3449112579#32,3967958319#32,74740145#32,3696760330#32,485590616#32,486927552#32,2502831210#32,686267396#32,3492545449#32,3810547796#32,1028799346#32,1838545428#32,3464193052#32,2508397280#32,1595731735#32]
def w3:List W:= [1166881435#32,1949976468#32,3099852498#32,3971538600#32,1012516190#32,1559500020#32,2504164775#32,2921292248#32,3674910107#32,361127428#32,657754305#32,1477411014#32,1975607415#32,2212607233#32,2665417130#32,3298751607#32,2468951950#32,2655786323#32,1004735574#32,1345196124#32,2502358250#32,2981252389#32,2257086099#32,1281101915#32,977063174#32,2969724770#32,2555575135#32,883360581#32,189438193#32,989241110#32,3184034966#32,510754668#32,2981958896#32,1697766683#32,829290962#32,3598408888#32,2927043512#32,3874564143#32,1022800712#32,1114927619#32,3345800616#32,3315974508#32,2762326756#32,2756995779#32,889304423#32,478323665#32,956406703#32,2174782338#32,258716846#32,1414833826#32,410763748#32,1125978466#32,3057809126#32,2108334129#32,4203157581#32,165248569#32,3590525818#32,3866804577#32,2353776852#32,271200330#32,450320648#32,25902305#32,488404409#32,1793265406#32]
def w4:List W:= [3263836056#32,1899447441#32,3049323471#32,3921009573#32,961987163#32,1508970993#32,2453635748#32,2870763221#32,3624381080#32,310598401#32,607225278#32,1426881987#32,1925078388#32,2162078206#32,2614888103#32,3248224628#32,1687906753#32,4106110856#32,266464710#32,604808172#32,1340683375#32,1271432362#32,1639532318#32,1996086874#32,4198912342#32,3368162946#32,2954717485#32,56203285#32,819081873#32,3924826383#32,1615937327#32,3662244855#32,2205442591#32,1885708555#32,3539820678#32,858889044#32,45126111#32,1814009033#32,788498427#32,1731177263#32,1241315092#32,3112895784#32,1532581257#32,3188603407#32,1089985150#32,1654184804#32,866438350#32,4162380699#32,1364074688#32,476854630#32,599375586#32,108516303#32,1336354205#32,2395837610#32,4035581856#32,222193058#32,3370441009#32,3714610257#32,2931585713#32,2148752908#32,661148149#32,2606462070#32,41398732#32,3941551781#32]
def sec (k:Nat):List UInt8:=List.replicate 64 (UInt8.ofNat k)
def p0I:List UInt8:=128::(List.replicate 55 0++be8 2048)
theorem wk0:wk (sec 0)=w0:=by decide+kernel
theorem wk1:wk (sec 1)=w1:=by decide+kernel
theorem wk2:wk (sec 2)=w2:=by decide+kernel
theorem wk3:wk (sec 3)=w3:=by decide+kernel
theorem wk4:wk p0I=w4:=by decide+kernel
def ww (k:Nat):List W:=match k with|0=>w0|1=>w1|2=>w2|_=>w3
def four (k:List W→List Nat):List Nat:=k w0++(k w1++(k w2++k w3))
def e2M (h:List W):List Nat:=c1B h w4 fun h=> [(at_ h 0).toNat]
def t1W (h:List W):List Nat:=four fun x=>c1B h x fun h=>four fun y=>c1B h y e2M
def n0J (a b:Nat):List Nat:=c1B start (ww a) fun h=>c1B h (ww b) t1W
def tab (a b:Nat):List Nat:=match 4*a+b with
 |0=> [1396827826,1550914536,2039498492,2387280181,883752447,3361315047,3081931578,617895476,3230844978,3081737201,1092378180,1162281012,887862196,2522349969,2407102295,2345801324]
 |1=> [816925585,267325322,2516726038,469170299,1213298010,1492887108,1889090512,1112867804,4033131754,2205329458,868322499,2697439140,1122408886,3876903364,3112287776,121720113]
 |2=> [1818082622,205500531,407924280,1293077799,2633351488,177942856,2982880274,529217762,3295231060,4207249023,2863039356,2069284679,3467176235,3863159894,1288073670,3990524654]
 |3=> [3930838328,724011696,1384120662,4088765726,2032296519,3508868040,3580264942,2816610888,211294740,2782797484,1128998836,1705909736,2385785023,3744886094,4216486116,767631065]
 |4=> [3097901666,3202992244,362718933,4210244791,2734094447,1458808161,3817871448,2943924884,3944673291,2447768362,1752932943,2204911397,222153930,4028612426,1597712475,3196546693]
 |5=> [3120010704,1195085953,4277752222,3815451992,2508013137,643928591,3966578828,316068783,887900569,3749482315,2510327746,88037892,1377994081,4093650266,3901915426,3912518166]
 |6=> [4033243686,4101887202,3502492252,3359644000,2433058384,3392448812,888817791,1742637583,430630185,3758719454,3977517492,4172100499,2717165763,1902001073,2416475910,1018150990]
 |7=> [3411727756,3988348970,2246117797,4182375010,3857145990,1623241207,2442383249,3864420738,3978668586,2633374389,1299912381,4244146390,282988513,3035538353,6850534,838498126]
 |8=> [1335539051,1298252275,918927688,2068861076,576552239,2275519707,2934809269,3450107385,1373759052,790896672,2628775961,2708617305,1581747232,704528092,1640961482,3255314374]
 |9=> [686887521,1286960148,377635684,3760182258,2927729465,2515898291,964621818,2327155200,2182840564,2867099919,19437618,3763522739,3409218662,4167803790,1600797471,914285912]
 |10=> [877049130,2794465858,1290953114,1980436148,2549493040,2782994075,3218029552,2304389420,3941336782,2868785562,4123143733,4161443054,2922133596,1748554510,3962314760,899673374]
 |11=> [2649087361,3882011355,611689463,2776834808,180600510,2246553383,2895479405,2176980985,3887752967,2209223989,2123069431,2911691486,1192636373,1135468434,1377874293,507983806]
 |12=> [3658104682,2621240489,47344678,1065960580,493261673,4119635404,2607564121,29539086,3368889056,3927639752,4074504150,581044628,328746370,2519108573,1844154813,508049387]
 |13=> [1271925871,1591760705,2401340085,2803556920,2583380790,2750632103,195900958,4121962732,1552080054,2428184220,3391186730,1911646673,2644449414,3352566797,1669681715,1242822505]
 |14=> [3261799072,2434840550,731257797,3097765481,1900409995,486532404,2642946561,4248803625,1947981908,3341829803,3974871154,852255562,1363870554,3934961700,4069975497,1802615281]
 |_=> [3045905782,4100634443,2581448430,3349378404,3564129468,952281366,1918479817,3930107805,3807671625,3828478330,4192872740,1227702853,854333182,560490985,3536644234,3770807365]
theorem c00:n0J 0 0=tab 0 0:=by decide+kernel
theorem c01:n0J 0 1=tab 0 1:=by decide+kernel
theorem c02:n0J 0 2=tab 0 2:=by decide+kernel
theorem c03:n0J 0 3=tab 0 3:=by decide+kernel
theorem c10:n0J 1 0=tab 1 0:=by decide+kernel
theorem c11:n0J 1 1=tab 1 1:=by decide+kernel
theorem c12:n0J 1 2=tab 1 2:=by decide+kernel
theorem c13:n0J 1 3=tab 1 3:=by decide+kernel
theorem c20:n0J 2 0=tab 2 0:=by decide+kernel
theorem c21:n0J 2 1=tab 2 1:=by decide+kernel
theorem c22:n0J 2 2=tab 2 2:=by decide+kernel
theorem c23:n0J 2 3=tab 2 3:=by decide+kernel
theorem c30:n0J 3 0=tab 3 0:=by decide+kernel
theorem c31:n0J 3 1=tab 3 1:=by decide+kernel
theorem c32:n0J 3 2=tab 3 2:=by decide+kernel
theorem c33:n0J 3 3=tab 3 3:=by decide+kernel
def z0D (i:Nat):Nat:=(tab (i/64) (i/16%4)).getD (i%16) 0
def chk:Bool:=(List.range 256).all fun i=>(List.range 256).all fun j=>Nat.beq i j || !Nat.beq (z0D i) (z0D j)
theorem u2C:chk=true:=by decide+kernel
theorem u2D {i j:Nat} (hi:i<256) (d:j<256) (h:z0D i=z0D j):i=j:=by
 have a:=u2C;unfold chk at a;rw[List.all_eq_true]at a;have b:=a i (List.mem_range.2 hi);rw[List.all_eq_true]at b;have c:=b j (List.mem_range.2 d);rw[h,Nat.beq_refl,Bool.not_true,Bool.or_false]at c;exact Nat.eq_of_beq_eq_true c
end Go.Sb.Sha

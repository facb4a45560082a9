/- Part of the proof; no statement of its own. -/
import Derived.Test.YtpinhnikemamjaaGreatDoorD08
set_option linter.all false
set_option maxRecDepth 4000
set_option maxHeartbeats 4000000
namespace Go.Sb
section
section
variable {K V:Type} [DecidableEq K]
def mok (m:List (K×V)):Prop:=(m.map (·.1)).Nodup
theorem f0N (k j:K) (v:V): ∀m:List (K×V),a0C j (b0O k v m)=if k=j then some v else a0C j m
 | []=>by simp[b0O,a0C]
 | (i,u)::m=>by
  by_cases h:i=k
  ·subst h;by_cases a:i=j<;>simp[b0O,a0C,a]
  ·simp only[b0O,if_neg h,a0C,f0N k j v m];by_cases a:i=j
   ·subst a;simp[Ne.symm h]
   ·simp[a]
theorem z0A {k:K} : ∀ {m:List (K×V)},k ∉ m.map (·.1)→a0C k m=none
 | [],_=>rfl
 | (i,u)::m,h=>by
  simp only[List.map_cons,List.mem_cons,not_or]at h;simp[a0C,Ne.symm h.1,z0A h.2]
theorem c0L (k j:K): ∀ {m:List (K×V)},mok m→a0C j (b0D k m)=if k=j then none else a0C j m
 | [],_=>by simp[b0D,a0C]
 | (i,u)::m,h=>by
  have b:i ∉ m.map (·.1)∧mok m:=by simpa [mok] using h
  by_cases e:i=k
  ·subst e;by_cases a:i=j
   ·subst a;simp[b0D,z0A b.1]
   ·simp[b0D,a0C,a]
  ·simp only[b0D,if_neg e,a0C,c0L k j b.2];by_cases a:i=j
   ·subst a;simp[Ne.symm e]
   ·simp[a]
theorem i1Z {k x:K} {v:V} : ∀ {m:List (K×V)},x∈(b0O k v m).map (·.1)↔x=k∨x∈m.map (·.1)
 | []=>by simp[b0O]
 | (i,u)::m=>by
  by_cases e:i=k
  ·subst e;simp[b0O]
  ·simp only[b0O,if_neg e,List.map_cons,List.mem_cons,i1Z (m:=m)];constructor
   ·rintro(h|h|h)<;>simp[h]
   ·rintro(h|h|h)<;>simp[h]
theorem k0E (k:K) (v:V): ∀ {m:List (K×V)},mok m→mok (b0O k v m)
 | [],_=>by simp[b0O,mok]
 | (i,u)::m,h=>by
  have b:i ∉ m.map (·.1)∧mok m:=by simpa [mok] using h
  by_cases e:i=k
  ·subst e;simpa [b0O,mok] using h
  ·simp only[b0O,if_neg e,mok,List.map_cons,List.nodup_cons];exact⟨fun c=>by
    rcases i1Z.1 c with a|a
    ·exact e a
    ·exact b.1 a,k0E k v b.2⟩
theorem t1E {k x:K} : ∀ {m:List (K×V)},x∈(b0D k m).map (·.1)→x∈m.map (·.1)
 | [],h=>h
 | (i,u)::m,h=>by
  by_cases e:i=k
  ·subst e;simp only[b0D,if_pos]at h;exact List.mem_cons_of_mem _ h
  ·simp only[b0D,if_neg e,List.map_cons,List.mem_cons]at h ⊢;exact h.imp id t1E
theorem k0F (k:K): ∀ {m:List (K×V)},mok m→mok (b0D k m)
 | [],h=>h
 | (i,u)::m,h=>by
  have a:i ∉ m.map (·.1)∧mok m:=by simpa [mok] using h
  by_cases e:i=k
  ·subst e;simpa [b0D] using a.2
  ·simp only[b0D,if_neg e,mok,List.map_cons,List.nodup_cons];exact⟨fun b=>a.1 (t1E b),k0F k a.2⟩
theorem e0D {k:K} {v:V} : ∀ {m:List (K×V)},mok m→(a0C k m=some v↔(k,v)∈m)
 | [],_=>by simp[a0C]
 | (i,u)::m,h=>by
  have a:i ∉ m.map (·.1)∧mok m:=by simpa [mok] using h
  by_cases e:i=k
  ·subst e;simp only[a0C,if_pos,List.mem_cons,Prod.mk.injEq,Option.some.injEq,true_and];constructor
   ·intro h;exact .inl h.symm
   ·rintro(h|h)
    ·exact h.symm
    ·exact(a.1 (List.mem_map.2 ⟨_,h,rfl⟩)).elim
  ·simp only[a0C,if_neg e,e0D a.2,List.mem_cons,Prod.mk.injEq,Ne.symm e,false_and,false_or]
def meq (m n:List (K×V)):Prop:= ∀k,a0C k m=a0C k n
theorem o2O {m n:List (K×V)} (c:mok m) (d:mok n) (h:meq m n):m.Perm n:=by
 have f:m.Nodup:=(List.pairwise_map.1 c).imp fun {a b} (h:a.1≠b.1) (e:a=b)=>h (congrArg Prod.fst e);have g:n.Nodup:=(List.pairwise_map.1 d).imp fun {a b} (h:a.1≠b.1) (e:a=b)=>h (congrArg Prod.fst e);refine(List.perm_ext_iff_of_nodup f g).2 fun⟨k,v⟩=> ?_;rw[←e0D c,←e0D d,h k]
theorem t2R {m n:List (K×V)} (k:K) (v:V) (h:meq m n):meq (b0O k v m) (b0O k v n):=fun j=>by rw[f0N,f0N,h j]
theorem t2S {m n:List (K×V)} (k:K) (a:mok m) (b:mok n) (h:meq m n):meq (b0D k m) (b0D k n):=fun j=>by rw[c0L k j a,c0L k j b,h j]
theorem v0E {m n:List (K×V)} (k:K) (w:Option V) (a:mok m) (b:mok n) (h:meq m n):meq (f0R k w m) (f0R k w n):=by
 cases w with
 |none=>exact t2S k a b h
 |some v=>exact t2R k v h
theorem v0F {m:List (K×V)} (k:K) (w:Option V) (h:mok m):mok (f0R k w m):=by
 cases w with
 |none=>exact k0F k h
 |some v=>exact k0E k v h
theorem v0G {m:List (K×V)} (k:K) (v:V) (h:mok m):meq (f0R k (a0C k m) (b0O k v m)) m:=fun j=>by
 cases a:a0C k m with
 |none=>
  simp only[f0R,c0L k j (k0E k v h),f0N];by_cases e:k=j
  ·subst e;simp[a]
  ·simp[e]
 |some u=>
  simp only[f0R,f0N];by_cases e:k=j
  ·subst e;simp[a]
  ·simp[e]
theorem v0H {m:List (K×V)} (k:K) (h:mok m):meq (f0R k (a0C k m) (b0D k m)) m:=fun j=>by
 cases a:a0C k m with
 |none=>
  simp only[f0R,c0L k j (k0F k h),c0L k j h];by_cases e:k=j
  ·subst e;simp[a]
  ·simp[e]
 |some u=>
  simp only[f0R,f0N,c0L k j h];by_cases e:k=j
  ·subst e;simp[a]
  ·simp[e]
end
structure Eqv (s t:St):Prop where
 fr:s.fr=t.fr
 g:s.g=t.g
 gone:s.gone=t.gone
 keep:s.keep=t.keep
 depth:s.depth=t.depth
 bits:s.bits=t.bits
 next:s.next=t.next
 epoch:s.epoch=t.epoch
 refs:meq s.refs t.refs
 young:meq s.young t.young
 index:meq s.index t.index
 vols:meq s.vols t.vols
structure MOK (s:St):Prop where
 refs:mok s.refs
 young:mok s.young
 index:mok s.index
 vols:mok s.vols
theorem Eqv.refl (s:St):Eqv s s:=⟨rfl,rfl,rfl,rfl,rfl,rfl,rfl,rfl,fun _=>rfl,fun _=>rfl,fun _=>rfl,fun _=>rfl⟩
theorem Eqv.trans {s t u:St} (h:Eqv s t) (k:Eqv t u):Eqv s u:=
 ⟨h.fr.trans k.fr,h.g.trans k.g,h.gone.trans k.gone,h.keep.trans k.keep,h.depth.trans k.depth,h.bits.trans k.bits,h.next.trans k.next,h.epoch.trans k.epoch,
  fun x=>(h.refs x).trans (k.refs x),fun x=>(h.young x).trans (k.young x),fun x=>(h.index x).trans (k.index x),fun x=>(h.vols x).trans (k.vols x)⟩
theorem j2D {st:c0U} {s:St} (h:MOK s):MOK (o0Q st s):=by
 cases st<;>first
  |exact⟨h.refs,h.young,h.index,h.vols⟩
  |exact⟨v0F _ _ h.refs,h.young,h.index,h.vols⟩
  |exact⟨h.refs,v0F _ _ h.young,h.index,h.vols⟩
  |exact⟨h.refs,h.young,v0F _ _ h.index,h.vols⟩
  |exact⟨h.refs,h.young,h.index,v0F _ _ h.vols⟩
theorem j2E {st:c0U} {s t:St} (p:MOK s) (q:MOK t) (h:Eqv s t):Eqv (o0Q st s) (o0Q st t):=by
 obtain⟨e,f,m,n,g,i,o,j,l,b,c,d⟩:=h;cases st with
 |give a=>exact⟨e,by simp only[o0Q,e,f],m,n,g,i,o,j,l,b,c,d⟩
 |back a=>exact⟨e,by simp only[o0Q,e,f],m,n,g,i,o,j,l,b,c,d⟩
 |refs k w=>exact⟨e,f,m,n,g,i,o,j,v0E k w p.refs q.refs l,b,c,d⟩
 |young k w=>exact⟨e,f,m,n,g,i,o,j,l,v0E k w p.young q.young b,c,d⟩
 |index k w=>exact⟨e,f,m,n,g,i,o,j,l,b,v0E k w p.index q.index c,d⟩
 |vols k w=>exact⟨e,f,m,n,g,i,o,j,l,b,c,v0E k w p.vols q.vols d⟩
 |keep w=>exact⟨e,f,m,rfl,g,i,o,j,l,b,c,d⟩
 |gone w=>exact⟨e,f,rfl,n,g,i,o,j,l,b,c,d⟩
 |next w=>exact⟨e,f,m,n,g,i,rfl,j,l,b,c,d⟩
theorem v0R {s:St} (h:MOK s): ∀l,MOK (e0O s l)
 | []=>h
 |_::l=>j2D (v0R h l)
theorem e1H {s t:St} (a:MOK s) (b:MOK t) (h:Eqv s t): ∀l,Eqv (e0O s l) (e0O t l)
 | []=>h
 |_::l=>j2E (v0R a l) (v0R b l) (e1H a b h l)
theorem p1R (s:St) (a:List c0U): ∀l1,e0O s (l1++a)=e0O (e0O s a) l1
 | []=>rfl
 |x::l1=>by show o0Q x (e0O s (l1++a))=_;rw[p1R s a l1];rfl
theorem x0E (s:St): ∀l,(e0O s l).d=s.d∧(e0O s l).log=s.log
 | []=>⟨rfl,rfl⟩
 |x::l=>by
  have:=x0E s l;cases x<;>exact this
def k0G (s:St) (a:Int):Prop:=isB s.fr s.g a 0=true
def n0A (d:Dk) (a:Nat):B:=(d.l.getD a ([],[])).2
structure UOK (s:St):Prop where
 m:MOK s
 keep:0≤s.keep
 held: ∀a,a0C a s.refs≠none→isB s.fr s.g a 1=true
 run:s.d.armed=false∧s.d.dead=false
 size:s.d.l.length=s.fr+s.g.length
 late:s.gone.Nodup∧ ∀a∈s.gone,isB s.fr s.g a 2=true
structure Rel (c k:Nat) (s s':St):Prop where
 ok:UOK s'
 fr:s'.fr=s.fr
 depth:s'.depth=s.depth
 bits:s'.bits=s.bits
 epoch:s'.epoch=s.epoch
 log: ∃l,s'.log=s.log++l∧l.length≤c∧Eqv (e0O s' l) s
 free: ∀a,k0G s' a→k0G s a
 disk: ∀a:Nat,k0G s a∨n0A s'.d a=n0A s.d a
 room:a0Y s≤a0Y s'+k
 glen:s'.g.length=s.g.length
 gone:s'.gone.length≤s.gone.length+c
theorem Rel.refl {s:St} (h:UOK s):Rel 0 0 s s:=⟨h,rfl,rfl,rfl,rfl,⟨[],by simp,by simp,Eqv.refl _⟩,fun _ h=>h,fun _=> .inr rfl,by omega,rfl,by omega⟩
theorem Rel.trans {c1 k1 c2 d:Nat} {s t u:St} (h:Rel c1 k1 s t) (j:Rel c2 d t u):Rel (c1+c2) (k1+d) s u:=by
 obtain⟨e,g,o,l⟩:=h.log;obtain⟨f,i,p,n⟩:=j.log;refine⟨j.ok,j.fr.trans h.fr,j.depth.trans h.depth,j.bits.trans h.bits,j.epoch.trans h.epoch,⟨e++f,by rw[i,g,List.append_assoc],by simp;omega,?_⟩,fun a k=>h.free a (j.free a k),fun a=> ?_,by have:=h.room;have:=j.room;omega,j.glen.trans h.glen,by have:=h.gone;have:=j.gone;omega⟩
 ·rw[p1R];exact(e1H (v0R j.ok.m f) h.ok.m n e).trans l
 ·rcases j.disk a with b|b
  ·exact .inl (h.free a b)
  ·rcases h.disk a with c|c
   ·exact .inl c
   ·exact .inr (b.trans c)
theorem Rel.mono {c k c' k':Nat} {s t:St} (h:Rel c k s t) (a:c≤c') (b:k≤k'):Rel c' k' s t:=by
 obtain⟨l,e,n,q⟩:=h.log;exact⟨h.ok,h.fr,h.depth,h.bits,h.epoch,⟨l,e,by omega,q⟩,h.free,h.disk,by have:=h.room;omega,h.glen,by have:=h.gone;omega⟩
def UM {α:Type} (c k:Nat) (m:M α):Prop:= ∀s,0<s.depth→UOK s→(m s).1≠ .big→Rel c k s (m s).2
section
variable {α β:Type} {c k c' k':Nat}
theorem UM.mono {m:M α} (h:UM c k m) (a:c≤c') (b:k≤k'):UM c' k' m:=fun s hd d hb=>(h s hd d hb).mono a b
theorem d0D (a:α):UM 0 0 (ret a:M α):=fun _ _ h _=>Rel.refl h
theorem x0F (e:Int):UM 0 0 (n0L e:M α):=fun _ _ h _=>Rel.refl h
theorem a2W (o:Out α):UM 0 0 (s0H o:M α):=fun _ _ h _=>Rel.refl h
theorem c0J {m:M α} {f:α→M β} (h:UM c k m) (g: ∀a,UM c' k' (f a)):UM (c+c') (k+k') (a0B m f):=fun s hd i hb=>by
 have b:=h s hd i (c0I hb);cases e:m s with
 |mk o t=>
  rw[e]at b;cases o with
  |ok a=>have d:=p0H hb e;rw[a0A e];exact b.trans (g a t (by rw[b.depth];exact hd) b.ok d)
  |err e'=>rw[a0F e];exact b.mono (by omega) (by omega)
  |big=>exact(c0I hb (by rw[e])).elim
theorem a1M {f:α→M Unit} (h: ∀a,UM c k (f a)): ∀l,UM (l.length*c) (l.length*k) (d0V f l)
 | []=>(d0D ()).mono (by simp) (by simp)
 |x::l=>(c0J (h x) fun _=>a1M h l).mono (by simp[Nat.succ_mul,Nat.add_comm]) (by simp[Nat.succ_mul,Nat.add_comm])
theorem a2X {f:β→α→M β} (h: ∀b a,UM c k (f b a)): ∀(l:List α) (b:β),UM (l.length*c) (l.length*k) (s0G f b l)
 | [],_=>(d0D _).mono (by simp) (by simp)
 |x::l,b=>(c0J (h b x) fun d=>a2X h l d).mono (by simp[Nat.succ_mul,Nat.add_comm]) (by simp[Nat.succ_mul,Nat.add_comm])
theorem e2E {m:St→M α} (h: ∀s,UM c k (m s)):UM c k (fun s=>m s s):=fun s hd a hb=>h s s hd a hb
end
end
theorem n0O {fr:Nat} {g:List Nat} {a:Int} {w:Nat} :isB fr g a w=true↔(fr:Int)≤a∧(a-fr).toNat<g.length∧g[(a-fr).toNat]? =some w:=by
 simp only[isB,Bool.and_eq_true,decide_eq_true_eq];constructor
 ·rintro⟨h1,h2,h3⟩;exact⟨h1,by omega,h3⟩
 ·rintro⟨h1,h2,h3⟩;exact⟨h1,by omega,h3⟩
theorem a1N {fr:Nat} {g:List Nat} {a:Int} {v w:Nat} (h:isB fr g a v=true) (k:isB fr g a w=true):v=w:=by
 have c:=(n0O.1 h).2.2;have b:=(n0O.1 k).2.2;rw[c]at b;exact Option.some.inj b
theorem e1I {fr:Nat} {g:List Nat} {a:Int} {v w:Nat} (h:isB fr g a v=true):mvL fr g a v w=g.set (a-fr).toNat w:=by simp[mvL,h]
theorem l0Q {fr:Nat} {g:List Nat} {a:Int} {v w:Nat} :(mvL fr g a v w).length=g.length:=by unfold mvL;split<;>simp
theorem l0F {fr:Nat} {g:List Nat} {a b:Int} {v w x:Nat} (h:isB fr g a v=true):isB fr (mvL fr g a v w) b x=if b=a then decide (w=x)else isB fr g b x:=by
 obtain⟨c,d,f⟩:=n0O.1 h;rw[e1I h];by_cases e:b=a
 ·subst e;simp only[if_pos,isB,List.length_set];rw[List.getElem?_set_self d];have:((b-fr:Int)<g.length):=by omega
  simp[c,this]
 ·simp only[if_neg e,isB,List.length_set];by_cases hb:(fr:Int)≤b
  ·rw[List.getElem?_set_ne (by omega)]
  ·have: ¬(b≥(fr:Int)):=hb;simp[this]
theorem t1F {fr:Nat} {g:List Nat} {a:Int} {v w:Nat} (h:isB fr g a v=true):mvL fr (mvL fr g a v w) a w v=g:=by
 have b:isB fr (mvL fr g a v w) a w=true:=by rw[l0F h];simp
 obtain⟨f,c,d⟩:=n0O.1 h;rw[e1I b,e1I h,List.set_set];apply List.ext_getElem?;intro i;by_cases e:(a-fr).toNat=i
 ·subst e;rw[List.getElem?_set_self c,d]
 ·rw[List.getElem?_set_ne e]
theorem q0S {fr:Nat} {g:List Nat} {a:Int} {v w x:Nat} (h:isB fr g a v=true):(mvL fr g a v w).count x+(if v=x then 1 else 0)=g.count x+(if w=x then 1 else 0):=by
 obtain⟨d,c,b⟩:=n0O.1 h;rw[e1I h];generalize (a-fr).toNat=i at c b;clear h d
 induction g generalizing i with
 |nil=>simp at c
 |cons y g ih=>
  cases i with
  |zero=>
   simp only[List.getElem?_cons_zero,Option.some.injEq]at b;subst b;simp only[List.set_cons_zero,List.count_cons,beq_iff_eq];omega
  |succ i=>
   have:=ih i (by simpa using c) (by simpa using b);simp only[List.set_cons_succ,List.count_cons];omega
theorem a2Y {fr:Nat} {g:List Nat} (h:0<g.count 0):isB fr g (b0R fr g) 0=true∧h0M g=mvL fr g (b0R fr g) 0 1:=by
 have e:(0:Nat)∈g:=List.count_pos_iff.1 h;cases a:g.findIdx? (· == 0)with
 |none=>
  rw[List.findIdx?_eq_none_iff]at a;exact absurd (a 0 e) (by simp)
 |some i=>
  have hi:=List.findIdx?_eq_some_iff_getElem.1 a;obtain⟨c,d,_⟩:=hi;have b:isB fr g (b0R fr g) 0=true:=by
   simp only[b0R,a];refine n0O.2 ⟨by omega,by omega,?_⟩;rw[show(((fr+i:Nat):Int)-fr).toNat=i by omega,List.getElem?_eq_getElem c];simpa using d
  refine⟨b,?_⟩;rw[e1I b];simp only[h0M,b0R,a];rw[show(((fr+i:Nat):Int)-fr).toNat=i by omega]
theorem x2P {d:Nat} {log:List c0U} {st:c0U} (h:0<d):bk d log st=log++ [st]:=by simp[bk,h]
theorem l0G {k:Nat} {s t:St} (st:c0U) (hd:0<s.depth) (o:UOK t) (e:t.log=bk s.depth s.log st) (h:t.fr=s.fr) (f:t.depth=s.depth) (hb:t.bits=s.bits) (l:t.epoch=s.epoch)
 (n:Eqv (o0Q st t) s) (m: ∀a,k0G t a→k0G s a) (b:t.d=s.d) (c:a0Y s≤a0Y t+k) (i:t.g.length=s.g.length) (j:t.gone.length≤s.gone.length+1):Rel 1 k s t:=
 ⟨o,h,f,hb,l,⟨[st],by rw[e,x2P hd],by simp,n⟩,m,fun a=> .inr (by rw[b]),c,i,j⟩
theorem u0J {s:St} (st:c0U) (h:s.log.length<1000000000):back st s=(.ok (),{s with log:=bk s.depth s.log st}):=by
 simp[back,show ¬1000000000≤s.log.length by omega]
theorem a1O {s:St} (st:c0U) (h: ¬s.log.length<1000000000):back st s=(.big,s):=by
 simp[back,show 1000000000≤s.log.length by omega]
theorem n0B {α:Type} {k:Nat} {s:St} (st:c0U) (g:St→Out α×St) (b:UOK s) (h:Rel 1 k s (g {s with log:=bk s.depth s.log st}).2):Rel 1 k s (a0B (fun s=>back st s) (fun _ s=>g s) s).2:=by
 by_cases a:s.log.length<1000000000
 ·rw[a0A (m:=fun s=>back st s) (u0J st a)];exact h
 ·have:a0B (fun s=>back st s) (fun _ s=>g s) s=(.big,s):=by simp[a0B,a1O st a]
  rw[this];exact(Rel.refl b).mono (by omega) (by omega)
theorem z0T {s:St} (hd:0<s.depth) (b:UOK s) (k v:Int) (d:isB s.fr s.g k 1=true):Rel 1 0 s (h0I k v s).2:=by
 refine n0B (.refs k (a0C k s.refs)) (fun s=>(.ok (),{s with refs:=b0O k v s.refs})) b ?_;refine l0G (.refs k (a0C k s.refs)) hd ⟨⟨k0E k v b.m.refs,b.m.young,b.m.index,b.m.vols⟩,b.keep,fun a c=> ?_,b.run,b.size,b.late⟩ rfl rfl rfl rfl rfl
  ⟨rfl,rfl,rfl,rfl,rfl,rfl,rfl,rfl,v0G k v b.m.refs,fun _=>rfl,fun _=>rfl,fun _=>rfl⟩ (fun _ h=>h) rfl (Nat.le_refl _) rfl (Nat.le_succ _)
 rw[f0N]at c;by_cases e:k=a
 ·subst e;exact d
 ·rw[if_neg e]at c;exact b.held a c
theorem t1G {s:St} (hd:0<s.depth) (b:UOK s) (k:Int):Rel 1 0 s (l0B k s).2:=by
 refine n0B (.refs k (a0C k s.refs)) (fun s=>(.ok (),{s with refs:=b0D k s.refs})) b ?_;refine l0G (.refs k (a0C k s.refs)) hd ⟨⟨k0F k b.m.refs,b.m.young,b.m.index,b.m.vols⟩,b.keep,fun a c=> ?_,b.run,b.size,b.late⟩ rfl rfl rfl rfl rfl
  ⟨rfl,rfl,rfl,rfl,rfl,rfl,rfl,rfl,v0H k b.m.refs,fun _=>rfl,fun _=>rfl,fun _=>rfl⟩ (fun _ h=>h) rfl (Nat.le_refl _) rfl (Nat.le_succ _)
 rw[c0L k a b.m.refs]at c;by_cases e:k=a
 ·simp[e]at c
 ·rw[if_neg e]at c;exact b.held a c
theorem y1I (k v:Int):UM 1 0 (m0E k v):=fun s hd a _=>by
 refine n0B (.young k (a0C k s.young)) (fun s=>(.ok (),{s with young:=b0O k v s.young})) a ?_;exact l0G (.young k (a0C k s.young)) hd ⟨⟨a.m.refs,k0E k v a.m.young,a.m.index,a.m.vols⟩,a.keep,a.held,a.run,a.size,a.late⟩ rfl rfl rfl rfl rfl
  ⟨rfl,rfl,rfl,rfl,rfl,rfl,rfl,rfl,fun _=>rfl,v0G k v a.m.young,fun _=>rfl,fun _=>rfl⟩ (fun _ h=>h) rfl (Nat.le_refl _) rfl (Nat.le_succ _)
theorem t1H (k:Int):UM 1 0 (f0M k):=fun s hd a _=>by
 refine n0B (.young k (a0C k s.young)) (fun s=>(.ok (),{s with young:=b0D k s.young})) a ?_;exact l0G (.young k (a0C k s.young)) hd ⟨⟨a.m.refs,k0F k a.m.young,a.m.index,a.m.vols⟩,a.keep,a.held,a.run,a.size,a.late⟩ rfl rfl rfl rfl rfl
  ⟨rfl,rfl,rfl,rfl,rfl,rfl,rfl,rfl,fun _=>rfl,v0H k a.m.young,fun _=>rfl,fun _=>rfl⟩ (fun _ h=>h) rfl (Nat.le_refl _) rfl (Nat.le_succ _)
theorem h1O (k:B) (v:Int):UM 1 0 (f0F k v):=fun s hd a _=>by
 refine n0B (.index k (a0C k s.index)) (fun s=>(.ok (),{s with index:=b0O k v s.index})) a ?_;exact l0G (.index k (a0C k s.index)) hd ⟨⟨a.m.refs,a.m.young,k0E k v a.m.index,a.m.vols⟩,a.keep,a.held,a.run,a.size,a.late⟩ rfl rfl rfl rfl rfl
  ⟨rfl,rfl,rfl,rfl,rfl,rfl,rfl,rfl,fun _=>rfl,fun _=>rfl,v0G k v a.m.index,fun _=>rfl⟩ (fun _ h=>h) rfl (Nat.le_refl _) rfl (Nat.le_succ _)
theorem e1J (k:B):UM 1 0 (h0O k):=fun s hd a _=>by
 refine n0B (.index k (a0C k s.index)) (fun s=>(.ok (),{s with index:=b0D k s.index})) a ?_;exact l0G (.index k (a0C k s.index)) hd ⟨⟨a.m.refs,a.m.young,k0F k a.m.index,a.m.vols⟩,a.keep,a.held,a.run,a.size,a.late⟩ rfl rfl rfl rfl rfl
  ⟨rfl,rfl,rfl,rfl,rfl,rfl,rfl,rfl,fun _=>rfl,fun _=>rfl,v0H k a.m.index,fun _=>rfl⟩ (fun _ h=>h) rfl (Nat.le_refl _) rfl (Nat.le_succ _)
theorem e2F (k:Int) (v:Ent):UM 1 0 (s0R k v):=fun s hd a _=>by
 refine n0B (.vols k (a0C k s.vols)) (fun s=>(.ok (),{s with vols:=b0O k v s.vols})) a ?_;exact l0G (.vols k (a0C k s.vols)) hd ⟨⟨a.m.refs,a.m.young,a.m.index,k0E k v a.m.vols⟩,a.keep,a.held,a.run,a.size,a.late⟩ rfl rfl rfl rfl rfl
  ⟨rfl,rfl,rfl,rfl,rfl,rfl,rfl,rfl,fun _=>rfl,fun _=>rfl,fun _=>rfl,v0G k v a.m.vols⟩ (fun _ h=>h) rfl (Nat.le_refl _) rfl (Nat.le_succ _)
theorem h1P (k:Int):UM 1 0 (o0H k):=fun s hd a _=>by
 refine n0B (.vols k (a0C k s.vols)) (fun s=>(.ok (),{s with vols:=b0D k s.vols})) a ?_;exact l0G (.vols k (a0C k s.vols)) hd ⟨⟨a.m.refs,a.m.young,a.m.index,k0F k a.m.vols⟩,a.keep,a.held,a.run,a.size,a.late⟩ rfl rfl rfl rfl rfl
  ⟨rfl,rfl,rfl,rfl,rfl,rfl,rfl,rfl,fun _=>rfl,fun _=>rfl,fun _=>rfl,v0H k a.m.vols⟩ (fun _ h=>h) rfl (Nat.le_refl _) rfl (Nat.le_succ _)
theorem e2G {n:Int} (b:0≤n):UM 1 0 (x0A n):=fun s hd a _=>by
 refine n0B (.keep s.keep) (fun s=>(.ok (),{s with keep:=n})) a ?_;exact l0G (.keep s.keep) hd ⟨⟨a.m.refs,a.m.young,a.m.index,a.m.vols⟩,b,a.held,a.run,a.size,a.late⟩ rfl rfl rfl rfl rfl
  ⟨rfl,rfl,rfl,rfl,rfl,rfl,rfl,rfl,fun _=>rfl,fun _=>rfl,fun _=>rfl,fun _=>rfl⟩ (fun _ h=>h) rfl (Nat.le_refl _) rfl (Nat.le_succ _)
theorem e2H (n:Int):UM 1 0 (p0Y n):=fun s hd a _=>by
 refine n0B (.next s.next) (fun s=>(.ok (),{s with next:=n})) a ?_;exact l0G (.next s.next) hd ⟨⟨a.m.refs,a.m.young,a.m.index,a.m.vols⟩,a.keep,a.held,a.run,a.size,a.late⟩ rfl rfl rfl rfl rfl
  ⟨rfl,rfl,rfl,rfl,rfl,rfl,rfl,rfl,fun _=>rfl,fun _=>rfl,fun _=>rfl,fun _=>rfl⟩ (fun _ h=>h) rfl (Nat.le_refl _) rfl (Nat.le_succ _)
theorem y1J {s:St} (hd:0<s.depth) (b:UOK s) (l:List Int) (d:l.length≤s.gone.length+1) (c:l.Nodup∧ ∀a∈l,isB s.fr s.g a 2=true):Rel 1 0 s (h0X l s).2:=by
 unfold h0X;split
 ·exact(Rel.refl b).mono (by omega) (by omega)
 ·refine n0B (.gone s.gone) (fun s=>(.ok (),{s with gone:=l})) b ?_;exact l0G (.gone s.gone) hd ⟨⟨b.m.refs,b.m.young,b.m.index,b.m.vols⟩,b.keep,b.held,b.run,b.size,c⟩ rfl rfl rfl rfl rfl
   ⟨rfl,rfl,rfl,rfl,rfl,rfl,rfl,rfl,fun _=>rfl,fun _=>rfl,fun _=>rfl,fun _=>rfl⟩ (fun _ h=>h) rfl (Nat.le_refl _) rfl d
theorem o2P {s:St} (hd:0<s.depth) (d:UOK s) (a:Int) (f:isB s.fr s.g a 1=true) (i:a0C a s.refs=none) (hb:(back (.back a) {s with g:=mvL s.fr s.g a 1 2}).1≠ .big):Rel 1 0 s (back (.back a) {s with g:=mvL s.fr s.g a 1 2}).2:=by
 by_cases h:s.log.length<1000000000
 ·rw[u0J (s:= {s with g:=mvL s.fr s.g a 1 2}) (.back a) h];refine l0G (.back a) hd ⟨⟨d.m.refs,d.m.young,d.m.index,d.m.vols⟩,d.keep,fun b hb=> ?_,d.run,by show _=_+(mvL _ _ _ _ _).length;rw[l0Q];exact d.size,d.late.1,fun b hb=> ?_⟩ rfl rfl rfl rfl rfl
   ⟨rfl,t1F f,rfl,rfl,rfl,rfl,rfl,rfl,fun _=>rfl,fun _=>rfl,fun _=>rfl,fun _=>rfl⟩ (fun b hb=> ?_) rfl ?_ l0Q (Nat.le_succ _)
  ·show isB s.fr (mvL s.fr s.g a 1 2) b 1=true;rw[l0F f];have c:a0C b s.refs≠none:=hb;by_cases e:b=a
   ·subst e;exact(c i).elim
   ·rw[if_neg e];exact d.held b c
  ·show isB s.fr (mvL s.fr s.g a 1 2) b 2=true;rw[l0F f];by_cases e:b=a
   ·simp[e]
   ·rw[if_neg e];exact d.late.2 b hb
  ·have c:isB s.fr (mvL s.fr s.g a 1 2) b 0=true:=hb;rw[l0F f]at c;by_cases e:b=a
   ·simp[e]at c
   ·rw[if_neg e]at c;exact c
  ·have:=q0S (w:=2) (x:=0) f;simp at this;show s.g.count 0≤(mvL s.fr s.g a 1 2).count 0+0;omega
 ·exact(hb (by rw[a1O (s:= {s with g:=mvL s.fr s.g a 1 2}) (.back a) h])).elim
theorem o2Q {s:St} (hd:0<s.depth) (d:UOK s) (j:0<a0Y s) (hb:(back (.give (b0R s.fr s.g)) {s with g:=h0M s.g}).1≠ .big):
 Rel 1 1 s (back (.give (b0R s.fr s.g)) {s with g:=h0M s.g}).2∧isB s.fr (h0M s.g) (b0R s.fr s.g) 1=true∧k0G s (b0R s.fr s.g):=by
 obtain⟨f,e⟩:=a2Y (fr:=s.fr) j;rw[e]at hb ⊢;generalize b0R s.fr s.g=a at*
 by_cases i:s.log.length<1000000000
 ·rw[u0J (s:= {s with g:=mvL s.fr s.g a 0 1}) (.give a) i];refine⟨l0G (.give a) hd ⟨⟨d.m.refs,d.m.young,d.m.index,d.m.vols⟩,d.keep,fun b hb=> ?_,d.run,by show _=_+(mvL _ _ _ _ _).length;rw[l0Q];exact d.size,d.late.1,fun b hb=> ?_⟩ rfl rfl rfl rfl rfl
   ⟨rfl,t1F f,rfl,rfl,rfl,rfl,rfl,rfl,fun _=>rfl,fun _=>rfl,fun _=>rfl,fun _=>rfl⟩ (fun b hb=> ?_) rfl ?_ l0Q (Nat.le_succ _),by rw[l0F f];simp,f⟩
  ·show isB s.fr (mvL s.fr s.g a 0 1) b 1=true;rw[l0F f];have c:a0C b s.refs≠none:=hb;by_cases e:b=a
   ·simp[e]
   ·rw[if_neg e];exact d.held b c
  ·show isB s.fr (mvL s.fr s.g a 0 1) b 2=true;have h:isB s.fr s.g b 2=true:=d.late.2 b hb;rw[l0F f];by_cases e:b=a
   ·subst e;exact absurd (a1N h f) (by decide)
   ·rw[if_neg e];exact h
  ·have c:isB s.fr (mvL s.fr s.g a 0 1) b 0=true:=hb;rw[l0F f]at c;by_cases e:b=a
   ·simp[e]at c
   ·rw[if_neg e]at c;exact c
  ·have:=q0S (w:=1) (x:=0) f;simp at this;show s.g.count 0≤(mvL s.fr s.g a 0 1).count 0+1;omega
 ·exact(hb (by rw[a1O (s:= {s with g:=mvL s.fr s.g a 0 1}) (.give a) i])).elim
theorem Rel.write {c k:Nat} {s t:St} (h:Rel c k s t) {a:Int} (o:k0G s a) {d:Dk} (g:d.armed=t.d.armed∧d.dead=t.d.dead) (i:d.l.length=t.d.l.length) (j: ∀b:Nat,(b:Int)≠a→n0A d b=n0A t.d b):Rel c k s {t with d:=d} :=by
 refine⟨⟨⟨h.ok.m.refs,h.ok.m.young,h.ok.m.index,h.ok.m.vols⟩,h.ok.keep,h.ok.held,⟨g.1.trans h.ok.run.1,g.2.trans h.ok.run.2⟩,i.trans h.ok.size,h.ok.late⟩,h.fr,h.depth,h.bits,h.epoch,?_,h.free,fun b=> ?_,h.room,h.glen,h.gone⟩
 ·obtain⟨l,e,n,q⟩:=h.log;refine⟨l,e,n,?_⟩;have: ∀l,Eqv (e0O {t with d:=d} l) (e0O t l):=e1H ⟨h.ok.m.refs,h.ok.m.young,h.ok.m.index,h.ok.m.vols⟩ h.ok.m ⟨rfl,rfl,rfl,rfl,rfl,rfl,rfl,rfl,fun _=>rfl,fun _=>rfl,fun _=>rfl,fun _=>rfl⟩;exact(this l).trans q
 ·by_cases e:(b:Int)=a
  ·exact .inl (e▸o)
  ·rcases h.disk b with f|f
   ·exact .inl f
   ·exact .inr ((j b e).trans f)
theorem j2F {d:Dk} (h:d.armed=false∧d.dead=false) {a:Int} {b:B} (c:0≤a∧a<d.l.length) (e:b.length≤64):
 e0Y d a b=(.ok (),{d with l:=d.l.set a.toNat ((d.l.getD a.toNat ([],[])).1,b++a0L (64-b.length))}):=by
 unfold e0Y k0W;rw[h.2,h.1];simp only[Bool.false_eq_true,if_false,if_true];rw[if_neg (by omega),if_neg (by omega),h.1,h.2]
theorem t1I {d:Dk} (h:d.armed=false∧d.dead=false) {a:Int} {b:B} (c:0≤a):(e0Y d a b).2.armed=d.armed∧(e0Y d a b).2.dead=d.dead∧(e0Y d a b).2.l.length=d.l.length∧
 ∀n:Nat,(n:Int)≠a→n0A (e0Y d a b).2 n=n0A d n:=by
 unfold e0Y k0W;rw[h.2,h.1];simp only[Bool.false_eq_true,if_false,if_true];split
 ·exact⟨h.1,h.2,rfl,fun _ _=>rfl⟩
 ·split
  ·exact⟨h.1,h.2,rfl,fun _ _=>rfl⟩
  ·refine⟨h.1,h.2,by simp,fun n e=> ?_⟩;unfold n0A;simp only[List.getD_eq_getElem?_getD];rw[List.getElem?_set_ne (by omega)]
theorem a1P (b:B):UM 3 1 (e0S b):=fun s hd v hb=>by
 by_cases x:(a0Y s:Int)≤s.keep
 ·have e:e0S b s=(.err 8,s):=by simp[e0S,x]
  rw[e];exact(Rel.refl v).mono (by omega) (by omega)
 ·have H:=v.keep;have e:e0S b s=a0B (fun s'=>back (.give (b0R s.fr s.g)) {s' with g:=h0M s'.g}) (fun _=>a0B (h0I (b0R s.fr s.g) 1) fun _=>a0B (m0E (b0R s.fr s.g) 1) fun _=>a0B (t0G fun d=>e0Y d (b0R s.fr s.g) b) fun _=>ret (b0R s.fr s.g)) s:=by
   simp only[e0S,if_neg x]
  rw[e]at hb ⊢;have w:=c0I hb;obtain⟨q,t,i⟩:=o2Q hd v (by omega) w;by_cases y:s.log.length<1000000000
  ·have r:=u0J (s:= {s with g:=h0M s.g}) (.give (b0R s.fr s.g)) y;have j:=p0H hb r;rw[a0A (m:=fun s'=>back (.give (b0R s.fr s.g)) {s' with g:=h0M s'.g}) r];rw[r]at q;have z:=z0T (by rw[q.depth];exact hd) q.ok (b0R s.fr s.g) 1 t;generalize b0R s.fr s.g=a at*
   have C:0≤a:=by have:=(n0O.1 i).1;omega
   cases h:h0I a 1 {s with g:=h0M s.g,log:=bk s.depth s.log (.give a)} with
   |mk o2 t2=>
   rw[h]at z;have f:=q.trans z;have k:=c0I j;cases o2 with
   |big=>exact(k (by rw[h])).elim
   |err e'=>rw[a0F h];exact f.mono (by omega) (by omega)
   |ok u=>
   have l:=p0H j h;rw[a0A h];have A:=y1I a 1 t2 (by rw[f.depth];exact hd) f.ok (c0I l);cases p:m0E a 1 t2 with
   |mk o3 t3=>
   rw[p]at A;have c:=f.trans A;have n:=c0I l;cases o3 with
   |big=>exact(n (by rw[p])).elim
   |err e'=>rw[a0F p];exact c.mono (by omega) (by omega)
   |ok u=>
   rw[a0A p];obtain⟨k1,F,k3,k4⟩:=t1I (b:=b) c.ok.run C;have G:=c.write i ⟨k1,F⟩ k3 k4;have D:(a0B (t0G fun d=>e0Y d a b) (fun _=>ret a) t3).2= {t3 with d:=(e0Y t3.d a b).2} :=by
    unfold a0B t0G;cases E:e0Y t3.d a b with
    |mk o d=>cases o<;>simp only[E]<;>rfl
   rw[D];exact G
  ·exact(w (congrArg Prod.fst (a1O (s:= {s with g:=h0M s.g}) (.give (b0R s.fr s.g)) y))).elim
theorem o1A (a:Int):UM 0 0 (g0X a):=fun s hd b _=>by
 unfold g0X;split<;>exact Rel.refl b
theorem o1B {s:St} {a:Int} (h:c0N s a≠0):a0C a s.refs≠none:=fun e=>h (by simp[c0N,e])
theorem b1U (a:Int):UM 1 0 (k0S a):=fun s hd b _=>by
 unfold k0S;by_cases h:c0N s a=0
 ·rw[if_pos h];exact(Rel.refl b).mono (by omega) (by omega)
 ·rw[if_neg h];exact z0T hd b _ _ (b.held a (o1B h))
theorem o2R (n:Int):UM 1 0 (o0R n):=e2G (by omega)
theorem o2S {s:St} (a:Int) (hd:0<s.depth) (i:UOK s) (d:a ∉ s.gone) (n:isB s.fr s.g a 2=true)
 (hb:((a0B (fun s=>if 0<h0Y s a then a0B (f0M a) (fun _ s=>h0X (s.gone++ [a]) s) s else ret () s) fun _=>ret true:M Bool) s).1≠ .big):
 Rel 2 0 s ((a0B (fun s=>if 0<h0Y s a then a0B (f0M a) (fun _ s=>h0X (s.gone++ [a]) s) s else ret () s) fun _=>ret true:M Bool) s).2:=by
 have l: ∀(m:M Unit) (t:St),((a0B m fun _=>ret true:M Bool) t).2=(m t).2:=fun m t=>by
  unfold a0B;cases m t with
  |mk o u=>cases o<;>rfl
 rw[l];have c:=c0I hb;clear hb l;by_cases f:0<h0Y s a
 ·simp only[if_pos f]at c ⊢;have j:=t1H a s hd i (c0I c);by_cases r:s.log.length<1000000000
  ·have k:f0M a s=(.ok (),{s with log:=bk s.depth s.log (.young a (a0C a s.young)),young:=b0D a s.young}):=by
    simp[f0M,a0B,back,show ¬1000000000≤s.log.length by omega]
   rw[k]at j;rw[a0A k];have q:=y1J (s:= {s with log:=bk s.depth s.log (.young a (a0C a s.young)),young:=b0D a s.young}) hd j.ok (s.gone++ [a]) (by simp)
    ⟨by rw[List.nodup_append];exact⟨i.late.1,by simp,fun x p y f e=>d (by simp at f;rw[←f,←e];exact p)⟩,fun b hb=>by
     rcases List.mem_append.1 hb with h|h
     ·exact i.late.2 b h
     ·have e:b=a:=by simpa using h
      subst e;exact n⟩
   exact j.trans q
  ·exact(c0I c (by simp[f0M,a0B,back,show 1000000000≤s.log.length by omega])).elim
 ·simp only[if_neg f];exact(Rel.refl i).mono (by omega) (by omega)
theorem x0W (a:Int):UM 4 0 (e0G a):=fun s hd d hb=>by
 cases hi:inR a with
 |false=>exact(hb (by simp[e0G,hi])).elim
 |true=>
 by_cases k:c0N s a=0
 ·rw[show e0G a s=(.err 6,s) by simp[e0G,hi,k]];exact(Rel.refl d).mono (by omega) (by omega)
 by_cases v:c0N s a=1
 ·have e:e0G a s=a0B (l0B a) (fun _=>a0B (fun s=>back (.back a) {s with g:=mvL s.fr s.g a 1 2}) fun _=>
   a0B (fun s=>if 0<h0Y s a then a0B (f0M a) (fun _ s=>h0X (s.gone++ [a]) s) s else ret () s) fun _=>ret true) s:=by
   simp[e0G,hi,v]
  rw[e]at hb ⊢;have n:=d.held a (o1B k);by_cases z:s.log.length<1000000000
  ·have f:=t1G hd d a;have b:l0B a s=(.ok (),{s with log:=bk s.depth s.log (.refs a (a0C a s.refs)),refs:=b0D a s.refs}):=by
    simp[l0B,a0B,back,show ¬1000000000≤s.log.length by omega]
   rw[b]at f;have c:=p0H hb b;rw[a0A b];have y:a0C a (b0D a s.refs)=none:=by rw[c0L a a d.m.refs];simp
   have w:=o2P (s:= {s with log:=bk s.depth s.log (.refs a (a0C a s.refs)),refs:=b0D a s.refs}) hd f.ok a n y (c0I c);by_cases h:(bk s.depth s.log (.refs a (a0C a s.refs))).length<1000000000
   ·have l:=u0J (s:= {s with log:=bk s.depth s.log (.refs a (a0C a s.refs)),refs:=b0D a s.refs,g:=mvL s.fr s.g a 1 2}) (.back a) h;have r:Rel 1 0 {s with log:=bk s.depth s.log (.refs a (a0C a s.refs)),refs:=b0D a s.refs} {s with log:=bk s.depth (bk s.depth s.log (.refs a (a0C a s.refs))) (.back a),refs:=b0D a s.refs,g:=mvL s.fr s.g a 1 2} :=by
     rw[l]at w;exact w
    have j:=f.trans r;have p:=p0H (m:=fun s=>back (.back a) {s with g:=mvL s.fr s.g a 1 2}) c l;rw[a0A (m:=fun s=>back (.back a) {s with g:=mvL s.fr s.g a 1 2}) l];have i:a ∉ s.gone:=fun x=>absurd (a1N n (d.late.2 a x)) (by decide);have q:isB s.fr (mvL s.fr s.g a 1 2) a 2=true:=by rw[l0F n];simp
    refine(j.trans (o2S a hd j.ok i q p)).mono (by omega) (by omega)
   ·exact(c0I c (congrArg Prod.fst (a1O (s:= {s with log:=bk s.depth s.log (.refs a (a0C a s.refs)),refs:=b0D a s.refs,g:=mvL s.fr s.g a 1 2}) (.back a) h))).elim
  ·exact(c0I hb (by simp[l0B,a0B,back,show 1000000000≤s.log.length by omega])).elim
 ·have e:e0G a s=a0B (h0I a (j0Z (c0N s a-1))) (fun _=>ret false) s:=by simp[e0G,hi,k,v]
  rw[e]at hb ⊢;have f:=z0T hd d a (j0Z (c0N s a-1)) (d.held a (o1B k));cases b:h0I a (j0Z (c0N s a-1)) s with
  |mk o t=>
  rw[b]at f;cases o with
  |big=>exact(c0I hb (by rw[b])).elim
  |err e'=>rw[a0F b];exact f.mono (by omega) (by omega)
  |ok u=>rw[a0A b];exact f.mono (by omega) (by omega)
section
section
variable {α:Type} {c k:Nat}
theorem l0R {p:Prop} [Decidable p] {m n:M α} (h:UM c k m) (j:UM c k n):UM c k (if p then m else n):=by split<;>assumption
theorem l0H {m:M α} (h:UM 0 0 m):UM c k m:=h.mono (by omega) (by omega)
end
theorem j1A (a:Int):UM 0 0 (e0U a):=c0J (o1A a) fun _=>a2W _
theorem p1S (x:Hd): ∀n,UM 0 0 (g0A x n)
 |0=>d0D _
 |n+1=>c0J (l0R (c0J (o1A _) fun _=>l0R (x0F _) (d0D _)) (d0D _)) fun _=>c0J (p1S x n) fun _=>d0D _
theorem a2Z (a:Int):UM 0 0 (l0D a):=l0R (d0D _) (c0J (j1A a) fun x=>p1S x 4)
theorem t2T (a:Int):UM 0 0 (r0X a):=l0R (d0D _) (c0J (j1A a) fun _=>d0D _)
theorem o2T (a:Int):UM 1 0 (t0K a):=l0R (l0H (d0D _)) (b1U a)
theorem t1J (data:B): ∀n,UM (n*3) n (n0I data n)
 |0=>d0D _
 |n+1=>(c0J (c:=3) (k:=1) (l0R (l0H (d0D _)) (c0J (a1P _) fun _=>d0D _)) fun _=>c0J (t1J data n) fun _=>d0D _).mono (by omega) (by omega)
theorem t2U (data:B):UM 16 5 (j0E data):=by
 unfold j0E;refine l0R (l0H (x0F _)) (l0R (l0H (d0D _)) ?_);intro s hd b hb;cases h:a0C (key s.bits (Sha.sum data)) s.index with
 |some a=>
  simp only[h]at hb ⊢;exact((c0J (a2Z a) fun c=>l0R (l0H (x0F _)) (c0J (b1U a) fun _=>d0D a)) s hd b hb).mono (by omega) (by omega)
 |none=>
  simp only[h]at hb ⊢;exact((c0J (t1J data 4) fun ps=>c0J (a1P _) fun a=>c0J (e2E (m:=fun s=>f0F (key s.bits (Sha.sum data)) a) fun _=>h1O _ _) fun _=>d0D a) s hd b hb).mono (by omega) (by omega)
theorem e2I (i:Int):UM 4 0 (j0K i):=l0R (c0J (x0W i) fun _=>d0D _) (l0H (d0D _))
theorem l0I (k:Nat): ∀n l,(g0Y k n l).length=n
 |0,_=>rfl
 |n+1,l=>by simp[g0Y,l0I k n]
theorem y1K {b:B} {x:Hd} (h:i0B b= .ok x):x.at_.length=4:=by
 unfold i0B at h;split at h
 ·cases h
 ·cases h
 ·split at h
  ·cases h
  ·split at h
   ·cases h
   ·cases h;simp[l0I]
theorem y1L {l:Nat} {b:B} {x:Nd} (h:g0C l b= .ok x):x.kids.length=8:=by
 unfold g0C at h;split at h
 ·cases h
 ·cases h
 ·split at h
  ·cases h
  ·split at h
   ·cases h
   ·split at h
    ·cases h
    ·cases h;simp[l0I]
theorem t2V {α:Type} {c k:Nat} {a:Int} {f:Hd→M α} (h: ∀x:Hd,x.at_.length=4→UM c k (f x)):UM c k (a0B (e0U a) f):=by
 intro s hd g hb;have b:=j1A a s hd g (c0I hb);cases e:e0U a s with
 |mk o t=>
 rw[e]at b;cases o with
 |big=>exact(c0I hb (by rw[e])).elim
 |err e'=>rw[a0F e];exact b.mono (by omega) (by omega)
 |ok x=>
  have i:x.at_.length=4:=by
   unfold e0U a0B at e;split at e
   ·simp only[s0H,Prod.mk.injEq]at e;exact y1K e.1
   ·cases e
   ·cases e
  have d:=p0H hb e;rw[a0A e];exact(b.trans (h x i t (by rw[b.depth];exact hd) b.ok d)).mono (by omega) (by omega)
theorem j1B (a:Int):UM 21 0 (g0O a):=by
 unfold g0O;refine l0R (l0H (d0D _)) (t2V fun x e=> ?_);refine(c0J (x0W a) (c':=17) (k':=0) fun b=> ?_).mono (by omega) (by omega);cases b with
 |false=>exact l0H (d0D _)
 |true=>
  simp only[if_true];have d:=a1M (c:=4) (k:=0) e2I x.at_;rw[e]at d;exact(c0J d fun _=>e2E (m:=fun s=>h0O (key s.bits x.sum)) fun _=>e1J _).mono (by omega) (by omega)
theorem g1O (a:Int) (l:Nat):UM 0 0 (load a l):=l0R (d0D _) (c0J (o1A a) fun _=>a2W _)
theorem h0Q {a:Int} {l:Nat} {s t:St} {n:Nd} (h:load a l s=(.ok n,t)):n.kids.length=8:=by
 unfold load at h;split at h
 ·cases h;rfl
 ·unfold a0B at h;split at h
  ·simp only[s0H,Prod.mk.injEq]at h;exact y1L h.1
  ·cases h
  ·cases h
theorem o1C {α:Type} {c k:Nat} {a:Int} {l:Nat} {f:Nd→M α} (h: ∀n:Nd,n.kids.length=8→UM c k (f n)):UM c k (a0B (load a l) f):=by
 intro s hd g hb;have b:=g1O a l s hd g (c0I hb);cases e:load a l s with
 |mk o t=>
 rw[e]at b;cases o with
 |big=>exact(c0I hb (by rw[e])).elim
 |err e'=>rw[a0F e];exact b.mono (by omega) (by omega)
 |ok x=>
  have d:=p0H hb e;rw[a0A e];exact(b.trans (h x (h0Q e) t (by rw[b.depth];exact hd) b.ok d)).mono (by omega) (by omega)
theorem t1K (a:Int) (l:Nat):UM 1 0 (h0E a l):=l0R (l0H (d0D _)) (l0R (o2T a) (b1U a))
def j0T:Nat→Nat
 |0=>21
 |l+1=>4+8*j0T l
theorem t1L: ∀(l:Nat) (a:Int),UM (j0T l) 0 (g0P l a)
 |0,a=>j1B a
 |l+1,a=>by
  unfold g0P;refine l0R (l0H (d0D _)) (o1C fun n e=> ?_);refine(c0J (x0W a) (c':=8*j0T l) (k':=0) fun b=> ?_);cases b with
  |false=>exact l0H (d0D _)
  |true=>
   simp only[if_true];have d:=a1M (c:=j0T l) (k:=0) (t1L l) n.kids;rw[e]at d;exact d.mono (by omega) (by omega)
theorem j1C (a:Int) (l:Nat):UM (j0T (l+1)) 0 (v0D a l):=t1L (l+1) a
theorem j1D (l:Nat): ∀ks,UM 0 0 (h0F l ks)
 | []=>d0D _
 |k::ks=>by
  unfold h0F;refine c0J ?_ fun _=>c0J (j1D l ks) fun _=>d0D _;cases l with
  |zero=>exact t2T k
  |succ n=>exact c0J (g1O k n) fun _=>d0D _
def g0H:Nat→Nat
 |0=>8+j0T 1+21+3
 |l+1=>8+j0T (l+2)+g0H l+3
theorem b2A: ∀(l:Nat) (root:Int) (at_:Nat) (to_:Int),UM (g0H l) (l+1) (i0W l root at_ to_)
 |0,root,at_,to_=>by
  unfold i0W;refine o1C fun n b=> ?_;have a:=a1M (c:=1) (k:=0) (f:=(h0E · 0)) (t1K · 0) n.kids;rw[b]at a;refine(c0J a fun _=>c0J (j1C root 0) fun _=>c0J (c0J (j1B _) fun _=>d0D to_) fun r=> ?_:UM (8*1+(j0T 1+(21+0+3))) (8*0+(0+(0+0+1))) _).mono (by simp only[g0H];omega) (by omega);exact l0R (l0H (d0D _)) ((c0J (j1D _ _) fun _=>a1P _).mono (by omega) (by omega))
 |l+1,root,at_,to_=>by
  unfold i0W;refine o1C fun n b=> ?_;have a:=a1M (c:=1) (k:=0) (f:=(h0E · (l+1))) (t1K · (l+1)) n.kids;rw[b]at a;refine(c0J a fun _=>c0J (j1C root (l+1)) fun _=>c0J (b2A l _ _ to_) fun r=> ?_:UM (8*1+(j0T (l+2)+(g0H l+3))) (8*0+(0+(l+1+1))) _).mono (by simp only[g0H];omega) (by omega);exact l0R (l0H (d0D _)) ((c0J (j1D _ _) fun _=>a1P _).mono (by omega) (by omega))
theorem o1D: ∀(l:Nat) (root:Int) (at_:Nat),UM 0 0 (l0E l root at_)
 |0,root,at_=>c0J (g1O root 0) fun _=>d0D _
 |l+1,root,at_=>c0J (g1O root (l+1)) fun _=>o1D l _ _
theorem b2B (root:Int) (at_:Nat) (to_:Int):UM (g0H 2) 3 (m0G root at_ to_):=
 (c0J (o1D 2 root at_) fun x=>l0R (c:=g0H 2) (k:=3) ((c0J (j1B to_) fun _=>d0D root).mono (by decide) (by omega)) (b2A 2 root at_ to_)).mono (by omega) (by omega)
theorem o1E (id:Int):UM 0 0 (find id):=fun s hd a _=>by unfold find;split<;>exact Rel.refl a
theorem j1E (id:Int):UM 0 0 (l0Z id):=c0J (o1E id) fun _=>l0R (x0F _) (d0D _)
theorem j2G (x:Ent) (a n:Int):UM 0 0 (l0U x a n):=l0R (x0F _) (d0D _)
theorem x0G (x:Ent):UM 1 0 (m0H x):=e2F _ _
theorem t2W (x:Ent):UM 2 0 (u0I x):=e2E (m:=fun s=>a0B (p0Y (m0Z (s.next+1))) (fun _=>a0B (m0H {x with id:=s.next,born:=s.epoch}) fun _=>ret s.next)) fun s=>c0J (e2H _) fun _=>c0J (x0G _) fun _=>d0D _
theorem b2C (x:Ent) (i:Nat):UM 0 0 (p0K x i):=c0J (o1D 2 x.root i) a2Z
theorem t2X (x:Ent) (i:Nat) (data:B):UM (16+g0H 2) 8 (r0Y x i data):=c0J (t2U data) fun a=>c0J (b2B x.root i a) fun _=>d0D _
theorem t1M: ∀(n:Nat) (x:Ent) (at_:Nat) (data:B) (m:Nat),data.length≤64*m→data.length%64=0→UM (m*(16+g0H 2)) (m*8) (j0S n x at_ data)
 |0,x,at_,data,m,_,_=>l0H (d0D _)
 |n+1,x,at_,data,m,h,h64=>by
  unfold j0S;by_cases c:data= []
  ·rw[if_pos c];exact l0H (d0D _)
  ·rw[if_neg c];have f:data.length≠0:=fun e=>c (List.eq_nil_of_length_eq_zero e);obtain⟨m,rfl⟩: ∃m',m=m'+1:=⟨m-1,by omega⟩;have a:(data.drop (min data.length (256-at_%4*64))).length≤64*m:=by simp;omega
   have b:(data.drop (min data.length (256-at_%4*64))).length%64=0:=by simp;omega
   exact(c0J (b2C x _) fun d=>c0J (t2X x _ _) fun x=>t1M n x _ _ m a b).mono (by rw[Nat.succ_mul];omega) (by rw[Nat.succ_mul];omega)
end
theorem m0P (x k:Nat): ∀m,(beB x k m).length=m
 |0=>rfl
 |m+1=>by simp[beB,m0P x k m]
theorem x2Q (a:B): ∀(b:B),be (a++b)=be a*256^b.length+be b:=by
 intro b;have h: ∀(b:B) (n:Nat),b.foldl (fun n c=>n*256+c.toNat) n=n*256^b.length+b.foldl (fun n c=>n*256+c.toNat) 0:=by
  intro b
  induction b with
  |nil=>intro n;simp
  |cons c b ih=>
   intro n;simp only[List.foldl_cons,List.length_cons];rw[ih (n*256+c.toNat),ih (0*256+c.toNat),Nat.pow_succ];simp only[Nat.zero_mul,Nat.zero_add,Nat.add_mul,Nat.mul_assoc,Nat.mul_comm 256,Nat.add_assoc]
 unfold be;rw[List.foldl_append,h b]
theorem b2D (x k:Nat): ∀m,m≤k→be (beB x k m)=x/256^(k-m)%256^m
 |0,_=>by simp[beB,be,Nat.mod_one]
 |m+1,h=>by
  have e:=b2D x k m (by omega);have b:be [UInt8.ofNat (x/256^(k-1-m))]=x/256^(k-1-m)%256:=by simp[be]
  have d:k-m=(k-1-m)+1:=by omega
  have a:k- (m+1)=k-1-m:=by omega
  rw[beB,x2Q,e,b,a,d];generalize k-1-m=j;rw[Nat.pow_succ,←Nat.div_div_eq_div_mul];generalize x/256^j=y;have c:256^(m+1)=256*256^m:=by rw[Nat.pow_succ,Nat.mul_comm]
  rw[c,Nat.mod_mul];simp only[List.length_singleton,Nat.pow_one];rw[Nat.mul_comm];omega
theorem t1N {x k:Nat} (h:x<256^k):be (beB x k k)=x:=by
 rw[b2D x k k (Nat.le_refl _),Nat.sub_self,Nat.pow_zero,Nat.div_one,Nat.mod_eq_of_lt h]
theorem t1O {a:Int} {k:Nat} (d:0≤a) (h:a<256^k) (c:k≤7):(be (num a k):Int)=a:=by
 have f:(256:Nat)^k≤256^7:=Nat.pow_le_pow_right (by decide) c;have b:a.toNat<256^k:=by
  have:((256^k:Nat):Int)=(256:Int)^k:=by simp
  omega
 have e:u64 a=a.toNat:=by unfold u64;omega
 unfold num;rw[e,t1N b];omega
theorem k0H (a:Int) (k:Nat):(num a k).length=k:=m0P _ _ _
theorem b1V {α:Type} {f:α→B} {k:Nat} (h: ∀x,(f x).length=k) (t:B): ∀(l:List α),g0Y k l.length (l.flatMap f++t)=l.map fun a=>be (f a)
 | []=>rfl
 |x::l=>by
  simp only[List.length_cons,g0Y,List.flatMap_cons,List.append_assoc,List.map_cons];rw[List.take_left' (h x),List.drop_left' (h x),b1V h t l]
theorem q0T {n:Nat} {l:B} (h:l.length≤n):(g0E n l).length=n:=by simp[g0E,a0L];omega
theorem g1P (b:B):g0G b<256^4:=by have:=(Crc.crc b).isLt;unfold g0G;omega
theorem p1T {b:B} (h:b.length≤60):i0A (v0C b)= .ok (g0E 60 b):=by
 have a:=q0T h;have c:(beB (g0G (g0E 60 b)) 4 4).length=4:=m0P _ _ _;unfold i0A v0C;simp only[List.length_append,a,c];rw[if_neg (by omega),if_neg (by omega),List.drop_left' a,List.take_left' a,List.take_of_length_le (by omega),t1N (g1P _)];simp
theorem h1Q {b:B} (h:b.length≤60):(v0C b).length=64:=by
 unfold v0C;rw[List.length_append,q0T h,m0P]
theorem d0N (n:Nat):a0R (a0L n)=true:=by simp[a0R,a0L]
structure HdOK (x:Hd):Prop where
 n:x.at_.length=4
 at_: ∀a∈x.at_,0≤a∧a<65536
 m:x.sums.length=4
 sums: ∀c∈x.sums,c<4294967296
 sum:x.sum.length=32
theorem i0J {α:Type} {f:α→B} {k:Nat} (h: ∀x,(f x).length=k): ∀l:List α,(l.flatMap f).length=l.length*k
 | []=>by simp
 |x::l=>by simp[h,i0J h l,Nat.succ_mul,Nat.add_comm]
theorem b2E {x:Hd} (h:HdOK x):i0B (h0Z x)= .ok x∧(h0Z x).length=64:=by
 have j:(x.at_.flatMap (num · 2)).length=8:=by rw[i0J (k:=2) fun a=>k0H a 2,h.n]
 have l:(x.sums.flatMap fun s=>beB s 4 4).length=16:=by rw[i0J (k:=4) fun a=>m0P a 4 4,h.m]
 have t:([69]++x.at_.flatMap (num · 2)++x.sums.flatMap (fun s=>beB s 4 4)++x.sum).length=57:=by simp only[List.length_append,j,l,h.sum,List.length_singleton]
 refine⟨?_,h1Q (by omega)⟩;unfold i0B h0Z;rw[p1T (by omega)];generalize p:x.at_.flatMap (num · 2)=A at*
 generalize q:x.sums.flatMap (fun s=>beB s 4 4)=S at*
 have e:g0E 60 ([69]++A++S++x.sum)= [69]++(A++(S++(x.sum++a0L 3))):=by
  unfold g0E;rw[t];simp only[List.append_assoc]
 simp only[e];have o:([69]++(A++(S++(x.sum++a0L 3)))).drop 1=A++(S++(x.sum++a0L 3)):=rfl;have f:([69]++(A++(S++(x.sum++a0L 3)))).drop 9=S++(x.sum++a0L 3):=by
  show(A++(S++(x.sum++a0L 3))).drop 8=_;exact List.drop_left' j
 have b:([69]++(A++(S++(x.sum++a0L 3)))).drop 25=x.sum++a0L 3:=by
  rw[show(25:Nat)=9+16 from rfl,←List.drop_drop,f];exact List.drop_left' l
 have d:([69]++(A++(S++(x.sum++a0L 3)))).drop 57=a0L 3:=by
  rw[show(57:Nat)=25+32 from rfl,←List.drop_drop,b];exact List.drop_left' h.sum
 rw[o,f,b,d,List.take_left' h.sum];have u:g0Y 2 4 (A++(S++(x.sum++a0L 3)))=x.at_.map fun a=>be (num a 2):=by
  have:=b1V (fun a=>k0H a 2) (S++(x.sum++a0L 3)) x.at_;rw[h.n,p]at this;exact this
 have v:g0Y 4 4 (S++(x.sum++a0L 3))=x.sums:=by
  have:=b1V (fun a=>m0P a 4 4) (x.sum++a0L 3) x.sums;rw[h.m,q]at this;rw[this];refine(List.map_congr_left (g:=id) fun c r=> ?_).trans (List.map_id _);exact t1N (Nat.lt_of_lt_of_eq (h.sums c r) (by decide))
 rw[u,v];have w:(x.at_.map fun a=>be (num a 2)).map Int.ofNat=x.at_:=by
  rw[List.map_map];refine(List.map_congr_left (g:=id) fun a i=> ?_).trans (List.map_id _);exact t1O (h.at_ a i).1 (by have:=(h.at_ a i).2;simpa using this) (by decide)
 rw[w];simp[d0N]
structure NdOK (x:Nd):Prop where
 n:x.kids.length=8
 kids: ∀a∈x.kids,0≤a∧a<65536
 sum:x.sum.length=32
theorem b2F {x:Nd} {l:Nat} (s:l<256) (h:NdOK x):g0C l (j0L l x)= .ok x∧(j0L l x).length=64:=by
 have m:(x.kids.flatMap (num · 2)).length=16:=by rw[i0J (k:=2) fun a=>k0H a 2,h.n]
 have f:(num l 1).length=1:=k0H _ _;have d:([78]++num l 1++x.kids.flatMap (num · 2)++x.sum).length=50:=by simp only[List.length_append,m,f,h.sum,List.length_singleton]
 refine⟨?_,h1Q (by omega)⟩;unfold g0C j0L;rw[p1T (by omega)];have hb:be (num l 1)=l:=by
  have:=t1O (a:=(l:Int)) (k:=1) (by omega) (by simp;omega) (by decide);omega
 generalize p:x.kids.flatMap (num · 2)=A at*
 generalize num (l:Int) 1=N at*
 have e:g0E 60 ([78]++N++A++x.sum)= [78]++(N++(A++(x.sum++a0L 10))):=by
  unfold g0E;rw[d];simp only[List.append_assoc]
 simp only[e];have o:([78]++(N++(A++(x.sum++a0L 10)))).drop 1=N++(A++(x.sum++a0L 10)):=rfl;have i:([78]++(N++(A++(x.sum++a0L 10)))).drop 2=A++(x.sum++a0L 10):=by
  show(N++(A++(x.sum++a0L 10))).drop 1=_;exact List.drop_left' f
 have b:([78]++(N++(A++(x.sum++a0L 10)))).drop 18=x.sum++a0L 10:=by
  rw[show(18:Nat)=2+16 from rfl,←List.drop_drop,i];exact List.drop_left' m
 have c:([78]++(N++(A++(x.sum++a0L 10)))).drop 50=a0L 10:=by
  rw[show(50:Nat)=18+32 from rfl,←List.drop_drop,b];exact List.drop_left' h.sum
 rw[o,i,b,c,List.take_left' h.sum,List.take_left' f,hb];have q:g0Y 2 8 (A++(x.sum++a0L 10))=x.kids.map fun a=>be (num a 2):=by
  have:=b1V (fun a=>k0H a 2) (x.sum++a0L 10) x.kids;rw[h.n,p]at this;exact this
 rw[q];have r:(x.kids.map fun a=>be (num a 2)).map Int.ofNat=x.kids:=by
  rw[List.map_map];refine(List.map_congr_left (g:=id) fun a j=> ?_).trans (List.map_id _);exact t1O (h.kids a j).1 (by have:=(h.kids a j).2;simpa using this) (by decide)
 rw[r];simp[d0N]
end Go.Sb

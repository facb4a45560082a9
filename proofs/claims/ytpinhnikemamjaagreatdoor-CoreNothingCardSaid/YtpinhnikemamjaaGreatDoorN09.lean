/- Part of the proof; no statement of its own. -/
import Derived.Test.YtpinhnikemamjaaGreatDoorN08
set_option linter.all false
set_option maxRecDepth 4000
set_option maxHeartbeats 4000000
namespace Go.Sb
section
section
variable {K V:Type} [DecidableEq K]
def mok (m:List (K×V)):Prop:=(m.map (·.1)).Nodup
theorem j0C (k j:K) (v:V): ∀m:List (K×V),a0E j (b0T k v m)=if k=j then some v else a0E j m
 | []=>by simp[b0T,a0E]
 | (i,u)::m=>by
  by_cases h:i=k
  ·subst h;by_cases h2:i=j<;>simp[b0T,a0E,h2]
  ·simp only[b0T,if_neg h,a0E,j0C k j v m];by_cases h2:i=j
   ·subst h2;simp[Ne.symm h]
   ·simp[h2]
theorem d1D {k:K} : ∀ {m:List (K×V)},k ∉ m.map (·.1)→a0E k m=none
 | [],_=>rfl
 | (i,u)::m,h=>by
  simp only[List.map_cons,List.mem_cons,not_or]at h;simp[a0E,Ne.symm h.1,d1D h.2]
theorem c0M (k j:K): ∀ {m:List (K×V)},mok m→a0E j (b0C k m)=if k=j then none else a0E j m
 | [],_=>by simp[b0C,a0E]
 | (i,u)::m,h=>by
  have h':i ∉ m.map (·.1)∧mok m:=by simpa [mok] using h
  by_cases e:i=k
  ·subst e;by_cases h2:i=j
   ·subst h2;simp[b0C,d1D h'.1]
   ·simp[b0C,a0E,h2]
  ·simp only[b0C,if_neg e,a0E,c0M k j h'.2];by_cases h2:i=j
   ·subst h2;simp[Ne.symm e]
   ·simp[h2]
theorem h1Q {k x:K} {v:V} : ∀ {m:List (K×V)},x∈(b0T k v m).map (·.1)↔x=k∨x∈m.map (·.1)
 | []=>by simp[b0T]
 | (i,u)::m=>by
  by_cases e:i=k
  ·subst e;simp[b0T]
  ·simp only[b0T,if_neg e,List.map_cons,List.mem_cons,h1Q (m:=m)];constructor
   ·rintro(h|h|h)<;>simp[h]
   ·rintro(h|h|h)<;>simp[h]
theorem m0O (k:K) (v:V): ∀ {m:List (K×V)},mok m→mok (b0T k v m)
 | [],_=>by simp[b0T,mok]
 | (i,u)::m,h=>by
  have h':i ∉ m.map (·.1)∧mok m:=by simpa [mok] using h
  by_cases e:i=k
  ·subst e;simpa [b0T,mok] using h
  ·simp only[b0T,if_neg e,mok,List.map_cons,List.nodup_cons];exact⟨fun hm=>by
    rcases h1Q.1 hm with h2|h2
    ·exact e h2
    ·exact h'.1 h2,m0O k v h'.2⟩
theorem r1P {k x:K} : ∀ {m:List (K×V)},x∈(b0C k m).map (·.1)→x∈m.map (·.1)
 | [],h=>h
 | (i,u)::m,h=>by
  by_cases e:i=k
  ·subst e;simp only[b0C,if_pos]at h;exact List.mem_cons_of_mem _ h
  ·simp only[b0C,if_neg e,List.map_cons,List.mem_cons]at h ⊢;exact h.imp id r1P
theorem j0U (k:K): ∀ {m:List (K×V)},mok m→mok (b0C k m)
 | [],h=>h
 | (i,u)::m,h=>by
  have h':i ∉ m.map (·.1)∧mok m:=by simpa [mok] using h
  by_cases e:i=k
  ·subst e;simpa [b0C] using h'.2
  ·simp only[b0C,if_neg e,mok,List.map_cons,List.nodup_cons];exact⟨fun hm=>h'.1 (r1P hm),j0U k h'.2⟩
theorem e0Q {k:K} {v:V} : ∀ {m:List (K×V)},mok m→(a0E k m=some v↔(k,v)∈m)
 | [],_=>by simp[a0E]
 | (i,u)::m,h=>by
  have h':i ∉ m.map (·.1)∧mok m:=by simpa [mok] using h
  by_cases e:i=k
  ·subst e;simp only[a0E,if_pos,List.mem_cons,Prod.mk.injEq,Option.some.injEq,true_and];constructor
   ·intro h;exact .inl h.symm
   ·rintro(h|h)
    ·exact h.symm
    ·exact(h'.1 (List.mem_map.2 ⟨_,h,rfl⟩)).elim
  ·simp only[a0E,if_neg e,e0Q h'.2,List.mem_cons,Prod.mk.injEq,Ne.symm e,false_and,false_or]
def meq (m n:List (K×V)):Prop:= ∀k,a0E k m=a0E k n
theorem m2I {m n:List (K×V)} (h1:mok m) (h2:mok n) (h:meq m n):m.Perm n:=by
 have d1:m.Nodup:=(List.pairwise_map.1 h1).imp fun {a b} (h:a.1≠b.1) (e:a=b)=>h (congrArg Prod.fst e);have d2:n.Nodup:=(List.pairwise_map.1 h2).imp fun {a b} (h:a.1≠b.1) (e:a=b)=>h (congrArg Prod.fst e);refine(List.perm_ext_iff_of_nodup d1 d2).2 fun⟨k,v⟩=> ?_;rw[←e0Q h1,←e0Q h2,h k]
theorem r2Q {m n:List (K×V)} (k:K) (v:V) (h:meq m n):meq (b0T k v m) (b0T k v n):=fun j=>by rw[j0C,j0C,h j]
theorem r2R {m n:List (K×V)} (k:K) (h1:mok m) (h2:mok n) (h:meq m n):meq (b0C k m) (b0C k n):=fun j=>by rw[c0M k j h1,c0M k j h2,h j]
theorem u0F {m n:List (K×V)} (k:K) (w:Option V) (h1:mok m) (h2:mok n) (h:meq m n):meq (f0G k w m) (f0G k w n):=by
 cases w with
 |none=>exact r2R k h1 h2 h
 |some v=>exact r2Q k v h
theorem u0G {m:List (K×V)} (k:K) (w:Option V) (h:mok m):mok (f0G k w m):=by
 cases w with
 |none=>exact j0U k h
 |some v=>exact m0O k v h
theorem u0H {m:List (K×V)} (k:K) (v:V) (h:mok m):meq (f0G k (a0E k m) (b0T k v m)) m:=fun j=>by
 cases hk:a0E k m with
 |none=>
  simp only[f0G,c0M k j (m0O k v h),j0C];by_cases e:k=j
  ·subst e;simp[hk]
  ·simp[e]
 |some u=>
  simp only[f0G,j0C];by_cases e:k=j
  ·subst e;simp[hk]
  ·simp[e]
theorem u0I {m:List (K×V)} (k:K) (h:mok m):meq (f0G k (a0E k m) (b0C k m)) m:=fun j=>by
 cases hk:a0E k m with
 |none=>
  simp only[f0G,c0M k j (j0U k h),c0M k j h];by_cases e:k=j
  ·subst e;simp[hk]
  ·simp[e]
 |some u=>
  simp only[f0G,j0C,c0M k j h];by_cases e:k=j
  ·subst e;simp[hk]
  ·simp[e]
end
structure Eqv (s t:St):Prop where
 fr:s.fr=t.fr
 g:s.g=t.g
 gone:s.gone=t.gone
 keep:s.keep=t.keep
 depth:s.depth=t.depth
 bits:s.bits=t.bits
 next:s.next=t.next
 epoch:s.epoch=t.epoch
 refs:meq s.refs t.refs
 young:meq s.young t.young
 index:meq s.index t.index
 vols:meq s.vols t.vols
structure MOK (s:St):Prop where
 refs:mok s.refs
 young:mok s.young
 index:mok s.index
 vols:mok s.vols
theorem Eqv.refl (s:St):Eqv s s:=⟨rfl,rfl,rfl,rfl,rfl,rfl,rfl,rfl,fun _=>rfl,fun _=>rfl,fun _=>rfl,fun _=>rfl⟩
theorem Eqv.trans {s t u:St} (h:Eqv s t) (k:Eqv t u):Eqv s u:=
 ⟨h.fr.trans k.fr,h.g.trans k.g,h.gone.trans k.gone,h.keep.trans k.keep,h.depth.trans k.depth,h.bits.trans k.bits,h.next.trans k.next,h.epoch.trans k.epoch,
  fun x=>(h.refs x).trans (k.refs x),fun x=>(h.young x).trans (k.young x),fun x=>(h.index x).trans (k.index x),fun x=>(h.vols x).trans (k.vols x)⟩
theorem g2Z {st:c0P} {s:St} (h:MOK s):MOK (n0Z st s):=by
 cases st<;>first
  |exact⟨h.refs,h.young,h.index,h.vols⟩
  |exact⟨u0G _ _ h.refs,h.young,h.index,h.vols⟩
  |exact⟨h.refs,u0G _ _ h.young,h.index,h.vols⟩
  |exact⟨h.refs,h.young,u0G _ _ h.index,h.vols⟩
  |exact⟨h.refs,h.young,h.index,u0G _ _ h.vols⟩
theorem h2A {st:c0P} {s t:St} (hs:MOK s) (ht:MOK t) (h:Eqv s t):Eqv (n0Z st s) (n0Z st t):=by
 obtain⟨h1,h2,h3,h4,h5,h6,h7,h8,h9,h10,h11,h12⟩:=h;cases st with
 |give a=>exact⟨h1,by simp only[n0Z,h1,h2],h3,h4,h5,h6,h7,h8,h9,h10,h11,h12⟩
 |back a=>exact⟨h1,by simp only[n0Z,h1,h2],h3,h4,h5,h6,h7,h8,h9,h10,h11,h12⟩
 |refs k w=>exact⟨h1,h2,h3,h4,h5,h6,h7,h8,u0F k w hs.refs ht.refs h9,h10,h11,h12⟩
 |young k w=>exact⟨h1,h2,h3,h4,h5,h6,h7,h8,h9,u0F k w hs.young ht.young h10,h11,h12⟩
 |index k w=>exact⟨h1,h2,h3,h4,h5,h6,h7,h8,h9,h10,u0F k w hs.index ht.index h11,h12⟩
 |vols k w=>exact⟨h1,h2,h3,h4,h5,h6,h7,h8,h9,h10,h11,u0F k w hs.vols ht.vols h12⟩
 |keep w=>exact⟨h1,h2,h3,rfl,h5,h6,h7,h8,h9,h10,h11,h12⟩
 |gone w=>exact⟨h1,h2,rfl,h4,h5,h6,h7,h8,h9,h10,h11,h12⟩
 |next w=>exact⟨h1,h2,h3,h4,h5,h6,rfl,h8,h9,h10,h11,h12⟩
theorem u0R {s:St} (h:MOK s): ∀l,MOK (e0I s l)
 | []=>h
 |_::l=>g2Z (u0R h l)
theorem d1E {s t:St} (hs:MOK s) (ht:MOK t) (h:Eqv s t): ∀l,Eqv (e0I s l) (e0I t l)
 | []=>h
 |_::l=>h2A (u0R hs l) (u0R ht l) (d1E hs ht h l)
theorem o1H (s:St) (l2:List c0P): ∀l1,e0I s (l1++l2)=e0I (e0I s l2) l1
 | []=>rfl
 |x::l1=>by show n0Z x (e0I s (l1++l2))=_;rw[o1H s l2 l1];rfl
theorem w0G (s:St): ∀l,(e0I s l).d=s.d∧(e0I s l).log=s.log
 | []=>⟨rfl,rfl⟩
 |x::l=>by
  have:=w0G s l;cases x<;>exact this
def j0V (s:St) (a:Int):Prop:=isB s.fr s.g a 0=true
def m0P (d:Dk) (a:Nat):B:=(d.l.getD a ([],[])).2
structure UOK (s:St):Prop where
 m:MOK s
 keep:0≤s.keep
 held: ∀a,a0E a s.refs≠none→isB s.fr s.g a 1=true
 run:s.d.armed=false∧s.d.dead=false
 size:s.d.l.length=s.fr+s.g.length
 late:s.gone.Nodup∧ ∀a∈s.gone,isB s.fr s.g a 2=true
structure Rel (c k:Nat) (s s':St):Prop where
 ok:UOK s'
 fr:s'.fr=s.fr
 depth:s'.depth=s.depth
 bits:s'.bits=s.bits
 epoch:s'.epoch=s.epoch
 log: ∃l,s'.log=s.log++l∧l.length≤c∧Eqv (e0I s' l) s
 free: ∀a,j0V s' a→j0V s a
 disk: ∀a:Nat,j0V s a∨m0P s'.d a=m0P s.d a
 room:b0K s≤b0K s'+k
 glen:s'.g.length=s.g.length
 gone:s'.gone.length≤s.gone.length+c
theorem Rel.refl {s:St} (h:UOK s):Rel 0 0 s s:=⟨h,rfl,rfl,rfl,rfl,⟨[],by simp,by simp,Eqv.refl _⟩,fun _ h=>h,fun _=> .inr rfl,by omega,rfl,by omega⟩
theorem Rel.trans {c1 k1 c2 k2:Nat} {s t u:St} (h:Rel c1 k1 s t) (j:Rel c2 k2 t u):Rel (c1+c2) (k1+k2) s u:=by
 obtain⟨l1,e1,n1,q1⟩:=h.log;obtain⟨l2,e2,n2,q2⟩:=j.log;refine⟨j.ok,j.fr.trans h.fr,j.depth.trans h.depth,j.bits.trans h.bits,j.epoch.trans h.epoch,⟨l1++l2,by rw[e2,e1,List.append_assoc],by simp;omega,?_⟩,fun a ha=>h.free a (j.free a ha),fun a=> ?_,by have:=h.room;have:=j.room;omega,j.glen.trans h.glen,by have:=h.gone;have:=j.gone;omega⟩
 ·rw[o1H];exact(d1E (u0R j.ok.m l2) h.ok.m q2 l1).trans q1
 ·rcases j.disk a with h1|h1
  ·exact .inl (h.free a h1)
  ·rcases h.disk a with h2|h2
   ·exact .inl h2
   ·exact .inr (h1.trans h2)
theorem Rel.mono {c k c' k':Nat} {s t:St} (h:Rel c k s t) (hc:c≤c') (hk:k≤k'):Rel c' k' s t:=by
 obtain⟨l,e,n,q⟩:=h.log;exact⟨h.ok,h.fr,h.depth,h.bits,h.epoch,⟨l,e,by omega,q⟩,h.free,h.disk,by have:=h.room;omega,h.glen,by have:=h.gone;omega⟩
def UM {α:Type} (c k:Nat) (m:M α):Prop:= ∀s,0<s.depth→UOK s→(m s).1≠ .big→Rel c k s (m s).2
section
variable {α β:Type} {c k c' k':Nat}
theorem UM.mono {m:M α} (h:UM c k m) (hc:c≤c') (hk:k≤k'):UM c' k' m:=fun s hd hs hb=>(h s hd hs hb).mono hc hk
theorem c0X (a:α):UM 0 0 (ret a:M α):=fun _ _ h _=>Rel.refl h
theorem w0H (e:Int):UM 0 0 (n0Q e:M α):=fun _ _ h _=>Rel.refl h
theorem y1X (o:Out α):UM 0 0 (t0P o:M α):=fun _ _ h _=>Rel.refl h
theorem c0E {m:M α} {f:α→M β} (h:UM c k m) (hf: ∀a,UM c' k' (f a)):UM (c+c') (k+k') (a0B m f):=fun s hd hs hb=>by
 have h1:=h s hd hs (c0I hb);cases e:m s with
 |mk o t=>
  rw[e]at h1;cases o with
  |ok a=>have h2:=o0S hb e;rw[a0A e];exact h1.trans (hf a t (by rw[h1.depth];exact hd) h1.ok h2)
  |err e'=>rw[a0I e];exact h1.mono (by omega) (by omega)
  |big=>exact(c0I hb (by rw[e])).elim
theorem z0N {f:α→M Unit} (h: ∀a,UM c k (f a)): ∀l,UM (l.length*c) (l.length*k) (i0D f l)
 | []=>(c0X ()).mono (by simp) (by simp)
 |x::l=>(c0E (h x) fun _=>z0N h l).mono (by simp[Nat.succ_mul,Nat.add_comm]) (by simp[Nat.succ_mul,Nat.add_comm])
theorem y1Y {f:β→α→M β} (h: ∀b a,UM c k (f b a)): ∀(l:List α) (b:β),UM (l.length*c) (l.length*k) (r0R f b l)
 | [],_=>(c0X _).mono (by simp) (by simp)
 |x::l,b=>(c0E (h b x) fun b'=>y1Y h l b').mono (by simp[Nat.succ_mul,Nat.add_comm]) (by simp[Nat.succ_mul,Nat.add_comm])
theorem c2F {m:St→M α} (h: ∀s,UM c k (m s)):UM c k (fun s=>m s s):=fun s hd hs hb=>h s s hd hs hb
end
end
theorem p0K {fr:Nat} {g:List Nat} {a:Int} {w:Nat} :isB fr g a w=true↔(fr:Int)≤a∧(a-fr).toNat<g.length∧g[(a-fr).toNat]? =some w:=by
 simp only[isB,Bool.and_eq_true,decide_eq_true_eq];constructor
 ·rintro⟨h1,h2,h3⟩;exact⟨h1,by omega,h3⟩
 ·rintro⟨h1,h2,h3⟩;exact⟨h1,by omega,h3⟩
theorem z0O {fr:Nat} {g:List Nat} {a:Int} {v w:Nat} (h:isB fr g a v=true) (k:isB fr g a w=true):v=w:=by
 have h1:=(p0K.1 h).2.2;have h2:=(p0K.1 k).2.2;rw[h1]at h2;exact Option.some.inj h2
theorem d1F {fr:Nat} {g:List Nat} {a:Int} {v w:Nat} (h:isB fr g a v=true):mvL fr g a v w=g.set (a-fr).toNat w:=by simp[mvL,h]
theorem n0J {fr:Nat} {g:List Nat} {a:Int} {v w:Nat} :(mvL fr g a v w).length=g.length:=by unfold mvL;split<;>simp
theorem m0J {fr:Nat} {g:List Nat} {a b:Int} {v w x:Nat} (h:isB fr g a v=true):isB fr (mvL fr g a v w) b x=if b=a then decide (w=x)else isB fr g b x:=by
 obtain⟨h1,h2,h3⟩:=p0K.1 h;rw[d1F h];by_cases e:b=a
 ·subst e;simp only[if_pos,isB,List.length_set];rw[List.getElem?_set_self h2];have:((b-fr:Int)<g.length):=by omega
  simp[h1,this]
 ·simp only[if_neg e,isB,List.length_set];by_cases hb:(fr:Int)≤b
  ·rw[List.getElem?_set_ne (by omega)]
  ·have: ¬(b≥(fr:Int)):=hb;simp[this]
theorem r1Q {fr:Nat} {g:List Nat} {a:Int} {v w:Nat} (h:isB fr g a v=true):mvL fr (mvL fr g a v w) a w v=g:=by
 have h':isB fr (mvL fr g a v w) a w=true:=by rw[m0J h];simp
 obtain⟨h1,h2,h3⟩:=p0K.1 h;rw[d1F h',d1F h,List.set_set];apply List.ext_getElem?;intro i;by_cases e:(a-fr).toNat=i
 ·subst e;rw[List.getElem?_set_self h2,h3]
 ·rw[List.getElem?_set_ne e]
theorem s0E {fr:Nat} {g:List Nat} {a:Int} {v w x:Nat} (h:isB fr g a v=true):(mvL fr g a v w).count x+(if v=x then 1 else 0)=g.count x+(if w=x then 1 else 0):=by
 obtain⟨h1,h2,h3⟩:=p0K.1 h;rw[d1F h];generalize (a-fr).toNat=i at h2 h3;clear h h1
 induction g generalizing i with
 |nil=>simp at h2
 |cons y g ih=>
  cases i with
  |zero=>
   simp only[List.getElem?_cons_zero,Option.some.injEq]at h3;subst h3;simp only[List.set_cons_zero,List.count_cons,beq_iff_eq];omega
  |succ i=>
   have:=ih i (by simpa using h2) (by simpa using h3);simp only[List.set_cons_succ,List.count_cons];omega
theorem y1Z {fr:Nat} {g:List Nat} (h:0<g.count 0):isB fr g (b0Q fr g) 0=true∧g0V g=mvL fr g (b0Q fr g) 0 1:=by
 have hm:(0:Nat)∈g:=List.count_pos_iff.1 h;cases hf:g.findIdx? (· == 0)with
 |none=>
  rw[List.findIdx?_eq_none_iff]at hf;exact absurd (hf 0 hm) (by simp)
 |some i=>
  have hi:=List.findIdx?_eq_some_iff_getElem.1 hf;obtain⟨h1,h2,_⟩:=hi;have hB:isB fr g (b0Q fr g) 0=true:=by
   simp only[b0Q,hf];refine p0K.2 ⟨by omega,by omega,?_⟩;rw[show(((fr+i:Nat):Int)-fr).toNat=i by omega,List.getElem?_eq_getElem h1];simpa using h2
  refine⟨hB,?_⟩;rw[d1F hB];simp only[g0V,b0Q,hf];rw[show(((fr+i:Nat):Int)-fr).toNat=i by omega]
theorem v2P {d:Nat} {log:List c0P} {st:c0P} (h:0<d):bk d log st=log++ [st]:=by simp[bk,h]
theorem k0T {k:Nat} {s t:St} (st:c0P) (hd:0<s.depth) (ht:UOK t) (hlog:t.log=bk s.depth s.log st) (hfr:t.fr=s.fr) (hdp:t.depth=s.depth) (hb:t.bits=s.bits) (he:t.epoch=s.epoch)
 (hq:Eqv (n0Z st t) s) (hg: ∀a,j0V t a→j0V s a) (hdisk:t.d=s.d) (hroom:b0K s≤b0K t+k) (hgl:t.g.length=s.g.length) (hgn:t.gone.length≤s.gone.length+1):Rel 1 k s t:=
 ⟨ht,hfr,hdp,hb,he,⟨[st],by rw[hlog,v2P hd],by simp,hq⟩,hg,fun a=> .inr (by rw[hdisk]),hroom,hgl,hgn⟩
theorem t0Q {s:St} (st:c0P) (h:s.log.length<1000000000):back st s=(.ok (),{s with log:=bk s.depth s.log st}):=by
 simp[back,show ¬1000000000≤s.log.length by omega]
theorem z0P {s:St} (st:c0P) (h: ¬s.log.length<1000000000):back st s=(.big,s):=by
 simp[back,show 1000000000≤s.log.length by omega]
theorem m0Q {α:Type} {k:Nat} {s:St} (st:c0P) (g:St→Out α×St) (hs:UOK s) (h:Rel 1 k s (g {s with log:=bk s.depth s.log st}).2):Rel 1 k s (a0B (fun s=>back st s) (fun _ s=>g s) s).2:=by
 by_cases hl:s.log.length<1000000000
 ·rw[a0A (m:=fun s=>back st s) (t0Q st hl)];exact h
 ·have:a0B (fun s=>back st s) (fun _ s=>g s) s=(.big,s):=by simp[a0B,z0P st hl]
  rw[this];exact(Rel.refl hs).mono (by omega) (by omega)
theorem y0Y {s:St} (hd:0<s.depth) (hs:UOK s) (k v:Int) (hk:isB s.fr s.g k 1=true):Rel 1 0 s (g0R k v s).2:=by
 refine m0Q (.refs k (a0E k s.refs)) (fun s=>(.ok (),{s with refs:=b0T k v s.refs})) hs ?_;refine k0T (.refs k (a0E k s.refs)) hd ⟨⟨m0O k v hs.m.refs,hs.m.young,hs.m.index,hs.m.vols⟩,hs.keep,fun a ha=> ?_,hs.run,hs.size,hs.late⟩ rfl rfl rfl rfl rfl
  ⟨rfl,rfl,rfl,rfl,rfl,rfl,rfl,rfl,u0H k v hs.m.refs,fun _=>rfl,fun _=>rfl,fun _=>rfl⟩ (fun _ h=>h) rfl (Nat.le_refl _) rfl (Nat.le_succ _)
 rw[j0C]at ha;by_cases e:k=a
 ·subst e;exact hk
 ·rw[if_neg e]at ha;exact hs.held a ha
theorem r1R {s:St} (hd:0<s.depth) (hs:UOK s) (k:Int):Rel 1 0 s (k0P k s).2:=by
 refine m0Q (.refs k (a0E k s.refs)) (fun s=>(.ok (),{s with refs:=b0C k s.refs})) hs ?_;refine k0T (.refs k (a0E k s.refs)) hd ⟨⟨j0U k hs.m.refs,hs.m.young,hs.m.index,hs.m.vols⟩,hs.keep,fun a ha=> ?_,hs.run,hs.size,hs.late⟩ rfl rfl rfl rfl rfl
  ⟨rfl,rfl,rfl,rfl,rfl,rfl,rfl,rfl,u0I k hs.m.refs,fun _=>rfl,fun _=>rfl,fun _=>rfl⟩ (fun _ h=>h) rfl (Nat.le_refl _) rfl (Nat.le_succ _)
 rw[c0M k a hs.m.refs]at ha;by_cases e:k=a
 ·simp[e]at ha
 ·rw[if_neg e]at ha;exact hs.held a ha
theorem w1P (k v:Int):UM 1 0 (l0N k v):=fun s hd hs _=>by
 refine m0Q (.young k (a0E k s.young)) (fun s=>(.ok (),{s with young:=b0T k v s.young})) hs ?_;exact k0T (.young k (a0E k s.young)) hd ⟨⟨hs.m.refs,m0O k v hs.m.young,hs.m.index,hs.m.vols⟩,hs.keep,hs.held,hs.run,hs.size,hs.late⟩ rfl rfl rfl rfl rfl
  ⟨rfl,rfl,rfl,rfl,rfl,rfl,rfl,rfl,fun _=>rfl,u0H k v hs.m.young,fun _=>rfl,fun _=>rfl⟩ (fun _ h=>h) rfl (Nat.le_refl _) rfl (Nat.le_succ _)
theorem r1S (k:Int):UM 1 0 (f0D k):=fun s hd hs _=>by
 refine m0Q (.young k (a0E k s.young)) (fun s=>(.ok (),{s with young:=b0C k s.young})) hs ?_;exact k0T (.young k (a0E k s.young)) hd ⟨⟨hs.m.refs,j0U k hs.m.young,hs.m.index,hs.m.vols⟩,hs.keep,hs.held,hs.run,hs.size,hs.late⟩ rfl rfl rfl rfl rfl
  ⟨rfl,rfl,rfl,rfl,rfl,rfl,rfl,rfl,fun _=>rfl,u0I k hs.m.young,fun _=>rfl,fun _=>rfl⟩ (fun _ h=>h) rfl (Nat.le_refl _) rfl (Nat.le_succ _)
theorem g1G (k:B) (v:Int):UM 1 0 (e0X k v):=fun s hd hs _=>by
 refine m0Q (.index k (a0E k s.index)) (fun s=>(.ok (),{s with index:=b0T k v s.index})) hs ?_;exact k0T (.index k (a0E k s.index)) hd ⟨⟨hs.m.refs,hs.m.young,m0O k v hs.m.index,hs.m.vols⟩,hs.keep,hs.held,hs.run,hs.size,hs.late⟩ rfl rfl rfl rfl rfl
  ⟨rfl,rfl,rfl,rfl,rfl,rfl,rfl,rfl,fun _=>rfl,fun _=>rfl,u0H k v hs.m.index,fun _=>rfl⟩ (fun _ h=>h) rfl (Nat.le_refl _) rfl (Nat.le_succ _)
theorem d1G (k:B):UM 1 0 (g0Z k):=fun s hd hs _=>by
 refine m0Q (.index k (a0E k s.index)) (fun s=>(.ok (),{s with index:=b0C k s.index})) hs ?_;exact k0T (.index k (a0E k s.index)) hd ⟨⟨hs.m.refs,hs.m.young,j0U k hs.m.index,hs.m.vols⟩,hs.keep,hs.held,hs.run,hs.size,hs.late⟩ rfl rfl rfl rfl rfl
  ⟨rfl,rfl,rfl,rfl,rfl,rfl,rfl,rfl,fun _=>rfl,fun _=>rfl,u0I k hs.m.index,fun _=>rfl⟩ (fun _ h=>h) rfl (Nat.le_refl _) rfl (Nat.le_succ _)
theorem c2G (k:Int) (v:Ent):UM 1 0 (s0D k v):=fun s hd hs _=>by
 refine m0Q (.vols k (a0E k s.vols)) (fun s=>(.ok (),{s with vols:=b0T k v s.vols})) hs ?_;exact k0T (.vols k (a0E k s.vols)) hd ⟨⟨hs.m.refs,hs.m.young,hs.m.index,m0O k v hs.m.vols⟩,hs.keep,hs.held,hs.run,hs.size,hs.late⟩ rfl rfl rfl rfl rfl
  ⟨rfl,rfl,rfl,rfl,rfl,rfl,rfl,rfl,fun _=>rfl,fun _=>rfl,fun _=>rfl,u0H k v hs.m.vols⟩ (fun _ h=>h) rfl (Nat.le_refl _) rfl (Nat.le_succ _)
theorem g1H (k:Int):UM 1 0 (n0R k):=fun s hd hs _=>by
 refine m0Q (.vols k (a0E k s.vols)) (fun s=>(.ok (),{s with vols:=b0C k s.vols})) hs ?_;exact k0T (.vols k (a0E k s.vols)) hd ⟨⟨hs.m.refs,hs.m.young,hs.m.index,j0U k hs.m.vols⟩,hs.keep,hs.held,hs.run,hs.size,hs.late⟩ rfl rfl rfl rfl rfl
  ⟨rfl,rfl,rfl,rfl,rfl,rfl,rfl,rfl,fun _=>rfl,fun _=>rfl,fun _=>rfl,u0I k hs.m.vols⟩ (fun _ h=>h) rfl (Nat.le_refl _) rfl (Nat.le_succ _)
theorem c2H {n:Int} (hn:0≤n):UM 1 0 (w0C n):=fun s hd hs _=>by
 refine m0Q (.keep s.keep) (fun s=>(.ok (),{s with keep:=n})) hs ?_;exact k0T (.keep s.keep) hd ⟨⟨hs.m.refs,hs.m.young,hs.m.index,hs.m.vols⟩,hn,hs.held,hs.run,hs.size,hs.late⟩ rfl rfl rfl rfl rfl
  ⟨rfl,rfl,rfl,rfl,rfl,rfl,rfl,rfl,fun _=>rfl,fun _=>rfl,fun _=>rfl,fun _=>rfl⟩ (fun _ h=>h) rfl (Nat.le_refl _) rfl (Nat.le_succ _)
theorem c2I (n:Int):UM 1 0 (p0H n):=fun s hd hs _=>by
 refine m0Q (.next s.next) (fun s=>(.ok (),{s with next:=n})) hs ?_;exact k0T (.next s.next) hd ⟨⟨hs.m.refs,hs.m.young,hs.m.index,hs.m.vols⟩,hs.keep,hs.held,hs.run,hs.size,hs.late⟩ rfl rfl rfl rfl rfl
  ⟨rfl,rfl,rfl,rfl,rfl,rfl,rfl,rfl,fun _=>rfl,fun _=>rfl,fun _=>rfl,fun _=>rfl⟩ (fun _ h=>h) rfl (Nat.le_refl _) rfl (Nat.le_succ _)
theorem w1Q {s:St} (hd:0<s.depth) (hs:UOK s) (l:List Int) (hl:l.length≤s.gone.length+1) (hg:l.Nodup∧ ∀a∈l,isB s.fr s.g a 2=true):Rel 1 0 s (h0D l s).2:=by
 unfold h0D;split
 ·exact(Rel.refl hs).mono (by omega) (by omega)
 ·refine m0Q (.gone s.gone) (fun s=>(.ok (),{s with gone:=l})) hs ?_;exact k0T (.gone s.gone) hd ⟨⟨hs.m.refs,hs.m.young,hs.m.index,hs.m.vols⟩,hs.keep,hs.held,hs.run,hs.size,hg⟩ rfl rfl rfl rfl rfl
   ⟨rfl,rfl,rfl,rfl,rfl,rfl,rfl,rfl,fun _=>rfl,fun _=>rfl,fun _=>rfl,fun _=>rfl⟩ (fun _ h=>h) rfl (Nat.le_refl _) rfl hl
theorem m2J {s:St} (hd:0<s.depth) (hs:UOK s) (a:Int) (ha:isB s.fr s.g a 1=true) (hr:a0E a s.refs=none) (hb:(back (.back a) {s with g:=mvL s.fr s.g a 1 2}).1≠ .big):Rel 1 0 s (back (.back a) {s with g:=mvL s.fr s.g a 1 2}).2:=by
 by_cases hl:s.log.length<1000000000
 ·rw[t0Q (s:= {s with g:=mvL s.fr s.g a 1 2}) (.back a) hl];refine k0T (.back a) hd ⟨⟨hs.m.refs,hs.m.young,hs.m.index,hs.m.vols⟩,hs.keep,fun b hb=> ?_,hs.run,by show _=_+(mvL _ _ _ _ _).length;rw[n0J];exact hs.size,hs.late.1,fun b hb=> ?_⟩ rfl rfl rfl rfl rfl
   ⟨rfl,r1Q ha,rfl,rfl,rfl,rfl,rfl,rfl,fun _=>rfl,fun _=>rfl,fun _=>rfl,fun _=>rfl⟩ (fun b hb=> ?_) rfl ?_ n0J (Nat.le_succ _)
  ·show isB s.fr (mvL s.fr s.g a 1 2) b 1=true;rw[m0J ha];have hb':a0E b s.refs≠none:=hb;by_cases e:b=a
   ·subst e;exact(hb' hr).elim
   ·rw[if_neg e];exact hs.held b hb'
  ·show isB s.fr (mvL s.fr s.g a 1 2) b 2=true;rw[m0J ha];by_cases e:b=a
   ·simp[e]
   ·rw[if_neg e];exact hs.late.2 b hb
  ·have hb':isB s.fr (mvL s.fr s.g a 1 2) b 0=true:=hb;rw[m0J ha]at hb';by_cases e:b=a
   ·simp[e]at hb'
   ·rw[if_neg e]at hb';exact hb'
  ·have:=s0E (w:=2) (x:=0) ha;simp at this;show s.g.count 0≤(mvL s.fr s.g a 1 2).count 0+0;omega
 ·exact(hb (by rw[z0P (s:= {s with g:=mvL s.fr s.g a 1 2}) (.back a) hl])).elim
theorem m2K {s:St} (hd:0<s.depth) (hs:UOK s) (hf:0<b0K s) (hb:(back (.give (b0Q s.fr s.g)) {s with g:=g0V s.g}).1≠ .big):
 Rel 1 1 s (back (.give (b0Q s.fr s.g)) {s with g:=g0V s.g}).2∧isB s.fr (g0V s.g) (b0Q s.fr s.g) 1=true∧j0V s (b0Q s.fr s.g):=by
 obtain⟨ha,e⟩:=y1Z (fr:=s.fr) hf;rw[e]at hb ⊢;generalize b0Q s.fr s.g=a at*
 by_cases hl:s.log.length<1000000000
 ·rw[t0Q (s:= {s with g:=mvL s.fr s.g a 0 1}) (.give a) hl];refine⟨k0T (.give a) hd ⟨⟨hs.m.refs,hs.m.young,hs.m.index,hs.m.vols⟩,hs.keep,fun b hb=> ?_,hs.run,by show _=_+(mvL _ _ _ _ _).length;rw[n0J];exact hs.size,hs.late.1,fun b hb=> ?_⟩ rfl rfl rfl rfl rfl
   ⟨rfl,r1Q ha,rfl,rfl,rfl,rfl,rfl,rfl,fun _=>rfl,fun _=>rfl,fun _=>rfl,fun _=>rfl⟩ (fun b hb=> ?_) rfl ?_ n0J (Nat.le_succ _),by rw[m0J ha];simp,ha⟩
  ·show isB s.fr (mvL s.fr s.g a 0 1) b 1=true;rw[m0J ha];have hb':a0E b s.refs≠none:=hb;by_cases e:b=a
   ·simp[e]
   ·rw[if_neg e];exact hs.held b hb'
  ·show isB s.fr (mvL s.fr s.g a 0 1) b 2=true;have hb2:isB s.fr s.g b 2=true:=hs.late.2 b hb;rw[m0J ha];by_cases e:b=a
   ·subst e;exact absurd (z0O hb2 ha) (by decide)
   ·rw[if_neg e];exact hb2
  ·have hb':isB s.fr (mvL s.fr s.g a 0 1) b 0=true:=hb;rw[m0J ha]at hb';by_cases e:b=a
   ·simp[e]at hb'
   ·rw[if_neg e]at hb';exact hb'
  ·have:=s0E (w:=1) (x:=0) ha;simp at this;show s.g.count 0≤(mvL s.fr s.g a 0 1).count 0+1;omega
 ·exact(hb (by rw[z0P (s:= {s with g:=mvL s.fr s.g a 0 1}) (.give a) hl])).elim
theorem Rel.write {c k:Nat} {s t:St} (h:Rel c k s t) {a:Int} (ha:j0V s a) {d:Dk} (h1:d.armed=t.d.armed∧d.dead=t.d.dead) (h2:d.l.length=t.d.l.length) (h3: ∀b:Nat,(b:Int)≠a→m0P d b=m0P t.d b):Rel c k s {t with d:=d} :=by
 refine⟨⟨⟨h.ok.m.refs,h.ok.m.young,h.ok.m.index,h.ok.m.vols⟩,h.ok.keep,h.ok.held,⟨h1.1.trans h.ok.run.1,h1.2.trans h.ok.run.2⟩,h2.trans h.ok.size,h.ok.late⟩,h.fr,h.depth,h.bits,h.epoch,?_,h.free,fun b=> ?_,h.room,h.glen,h.gone⟩
 ·obtain⟨l,e,n,q⟩:=h.log;refine⟨l,e,n,?_⟩;have: ∀l,Eqv (e0I {t with d:=d} l) (e0I t l):=d1E ⟨h.ok.m.refs,h.ok.m.young,h.ok.m.index,h.ok.m.vols⟩ h.ok.m ⟨rfl,rfl,rfl,rfl,rfl,rfl,rfl,rfl,fun _=>rfl,fun _=>rfl,fun _=>rfl,fun _=>rfl⟩;exact(this l).trans q
 ·by_cases e:(b:Int)=a
  ·exact .inl (e▸ha)
  ·rcases h.disk b with h4|h4
   ·exact .inl h4
   ·exact .inr ((h3 b e).trans h4)
theorem h2B {d:Dk} (h:d.armed=false∧d.dead=false) {a:Int} {b:B} (h1:0≤a∧a<d.l.length) (h2:b.length≤64):
 e0T d a b=(.ok (),{d with l:=d.l.set a.toNat ((d.l.getD a.toNat ([],[])).1,b++a0K (64-b.length))}):=by
 unfold e0T k0K;rw[h.2,h.1];simp only[Bool.false_eq_true,if_false,if_true];rw[if_neg (by omega),if_neg (by omega),h.1,h.2]
theorem r1T {d:Dk} (h:d.armed=false∧d.dead=false) {a:Int} {b:B} (h1:0≤a):(e0T d a b).2.armed=d.armed∧(e0T d a b).2.dead=d.dead∧(e0T d a b).2.l.length=d.l.length∧
 ∀n:Nat,(n:Int)≠a→m0P (e0T d a b).2 n=m0P d n:=by
 unfold e0T k0K;rw[h.2,h.1];simp only[Bool.false_eq_true,if_false,if_true];split
 ·exact⟨h.1,h.2,rfl,fun _ _=>rfl⟩
 ·split
  ·exact⟨h.1,h.2,rfl,fun _ _=>rfl⟩
  ·refine⟨h.1,h.2,by simp,fun n hn=> ?_⟩;unfold m0P;simp only[List.getD_eq_getElem?_getD];rw[List.getElem?_set_ne (by omega)]
theorem z0Q (b:B):UM 3 1 (e0M b):=fun s hd hs hb=>by
 by_cases hf:(b0K s:Int)≤s.keep
 ·have e:e0M b s=(.err 8,s):=by simp[e0M,hf]
  rw[e];exact(Rel.refl hs).mono (by omega) (by omega)
 ·have hk:=hs.keep;have e:e0M b s=a0B (fun s'=>back (.give (b0Q s.fr s.g)) {s' with g:=g0V s'.g}) (fun _=>a0B (g0R (b0Q s.fr s.g) 1) fun _=>a0B (l0N (b0Q s.fr s.g) 1) fun _=>a0B (s0R fun d=>e0T d (b0Q s.fr s.g) b) fun _=>ret (b0Q s.fr s.g)) s:=by
   simp only[e0M,if_neg hf]
  rw[e]at hb ⊢;have b1:=c0I hb;obtain⟨r1,ha1,ha0⟩:=m2K hd hs (by omega) b1;by_cases hl:s.log.length<1000000000
  ·have e1:=t0Q (s:= {s with g:=g0V s.g}) (.give (b0Q s.fr s.g)) hl;have hb2:=o0S hb e1;rw[a0A (m:=fun s'=>back (.give (b0Q s.fr s.g)) {s' with g:=g0V s'.g}) e1];rw[e1]at r1;have r2:=y0Y (by rw[r1.depth];exact hd) r1.ok (b0Q s.fr s.g) 1 ha1;generalize b0Q s.fr s.g=a at*
   have a0:0≤a:=by have:=(p0K.1 ha0).1;omega
   cases e2:g0R a 1 {s with g:=g0V s.g,log:=bk s.depth s.log (.give a)} with
   |mk o2 t2=>
   rw[e2]at r2;have r12:=r1.trans r2;have hb2':=c0I hb2;cases o2 with
   |big=>exact(hb2' (by rw[e2])).elim
   |err e'=>rw[a0I e2];exact r12.mono (by omega) (by omega)
   |ok u=>
   have hb3:=o0S hb2 e2;rw[a0A e2];have r3:=w1P a 1 t2 (by rw[r12.depth];exact hd) r12.ok (c0I hb3);cases e3:l0N a 1 t2 with
   |mk o3 t3=>
   rw[e3]at r3;have r123:=r12.trans r3;have hb3':=c0I hb3;cases o3 with
   |big=>exact(hb3' (by rw[e3])).elim
   |err e'=>rw[a0I e3];exact r123.mono (by omega) (by omega)
   |ok u=>
   rw[a0A e3];obtain⟨k1,k2,k3,k4⟩:=r1T (b:=b) r123.ok.run a0;have r4:=r123.write ha0 ⟨k1,k2⟩ k3 k4;have e4:(a0B (s0R fun d=>e0T d a b) (fun _=>ret a) t3).2= {t3 with d:=(e0T t3.d a b).2} :=by
    unfold a0B s0R;cases hw:e0T t3.d a b with
    |mk o d=>cases o<;>simp only[hw]<;>rfl
   rw[e4];exact r4
  ·exact(b1 (congrArg Prod.fst (z0P (s:= {s with g:=g0V s.g}) (.give (b0Q s.fr s.g)) hl))).elim
theorem m1P (a:Int):UM 0 0 (h0P a):=fun s hd hs _=>by
 unfold h0P;split<;>exact Rel.refl hs
theorem m1Q {s:St} {a:Int} (h:d0K s a≠0):a0E a s.refs≠none:=fun e=>h (by simp[d0K,e])
theorem a1W (a:Int):UM 1 0 (k0E a):=fun s hd hs _=>by
 unfold k0E;by_cases h:d0K s a=0
 ·rw[if_pos h];exact(Rel.refl hs).mono (by omega) (by omega)
 ·rw[if_neg h];exact y0Y hd hs _ _ (hs.held a (m1Q h))
theorem m2L (n:Int):UM 1 0 (o0A n):=c2H (by omega)
theorem m2M {s:St} (a:Int) (hd:0<s.depth) (hs:UOK s) (hnot:a ∉ s.gone) (hg:isB s.fr s.g a 2=true)
 (hb:((a0B (fun s=>if 0<h0E s a then a0B (f0D a) (fun _ s=>h0D (s.gone++ [a]) s) s else ret () s) fun _=>ret true:M Bool) s).1≠ .big):
 Rel 2 0 s ((a0B (fun s=>if 0<h0E s a then a0B (f0D a) (fun _ s=>h0D (s.gone++ [a]) s) s else ret () s) fun _=>ret true:M Bool) s).2:=by
 have hr: ∀(m:M Unit) (t:St),((a0B m fun _=>ret true:M Bool) t).2=(m t).2:=fun m t=>by
  unfold a0B;cases m t with
  |mk o u=>cases o<;>rfl
 rw[hr];have hb':=c0I hb;clear hb hr;by_cases hy:0<h0E s a
 ·simp only[if_pos hy]at hb' ⊢;have r1:=r1S a s hd hs (c0I hb');by_cases hl:s.log.length<1000000000
  ·have e4:f0D a s=(.ok (),{s with log:=bk s.depth s.log (.young a (a0E a s.young)),young:=b0C a s.young}):=by
    simp[f0D,a0B,back,show ¬1000000000≤s.log.length by omega]
   rw[e4]at r1;rw[a0A e4];have r2:=w1Q (s:= {s with log:=bk s.depth s.log (.young a (a0E a s.young)),young:=b0C a s.young}) hd r1.ok (s.gone++ [a]) (by simp)
    ⟨by rw[List.nodup_append];exact⟨hs.late.1,by simp,fun x hx y hy e=>hnot (by simp at hy;rw[←hy,←e];exact hx)⟩,fun b hb=>by
     rcases List.mem_append.1 hb with h|h
     ·exact hs.late.2 b h
     ·have e:b=a:=by simpa using h
      subst e;exact hg⟩
   exact r1.trans r2
  ·exact(c0I hb' (by simp[f0D,a0B,back,show 1000000000≤s.log.length by omega])).elim
 ·simp only[if_neg hy];exact(Rel.refl hs).mono (by omega) (by omega)
theorem x0B (a:Int):UM 4 0 (e0B a):=fun s hd hs hb=>by
 cases hi:inR a with
 |false=>exact(hb (by simp[e0B,hi])).elim
 |true=>
 by_cases h0:d0K s a=0
 ·rw[show e0B a s=(.err 6,s) by simp[e0B,hi,h0]];exact(Rel.refl hs).mono (by omega) (by omega)
 by_cases h1:d0K s a=1
 ·have e:e0B a s=a0B (k0P a) (fun _=>a0B (fun s=>back (.back a) {s with g:=mvL s.fr s.g a 1 2}) fun _=>
   a0B (fun s=>if 0<h0E s a then a0B (f0D a) (fun _ s=>h0D (s.gone++ [a]) s) s else ret () s) fun _=>ret true) s:=by
   simp[e0B,hi,h1]
  rw[e]at hb ⊢;have ha:=hs.held a (m1Q h0);by_cases hl:s.log.length<1000000000
  ·have r1:=r1R hd hs a;have e1:k0P a s=(.ok (),{s with log:=bk s.depth s.log (.refs a (a0E a s.refs)),refs:=b0C a s.refs}):=by
    simp[k0P,a0B,back,show ¬1000000000≤s.log.length by omega]
   rw[e1]at r1;have hb1:=o0S hb e1;rw[a0A e1];have hn:a0E a (b0C a s.refs)=none:=by rw[c0M a a hs.m.refs];simp
   have r2:=m2J (s:= {s with log:=bk s.depth s.log (.refs a (a0E a s.refs)),refs:=b0C a s.refs}) hd r1.ok a ha hn (c0I hb1);by_cases hl2:(bk s.depth s.log (.refs a (a0E a s.refs))).length<1000000000
   ·have e2:=t0Q (s:= {s with log:=bk s.depth s.log (.refs a (a0E a s.refs)),refs:=b0C a s.refs,g:=mvL s.fr s.g a 1 2}) (.back a) hl2;have r2':Rel 1 0 {s with log:=bk s.depth s.log (.refs a (a0E a s.refs)),refs:=b0C a s.refs} {s with log:=bk s.depth (bk s.depth s.log (.refs a (a0E a s.refs))) (.back a),refs:=b0C a s.refs,g:=mvL s.fr s.g a 1 2} :=by
     rw[e2]at r2;exact r2
    have r12:=r1.trans r2';have hb2:=o0S (m:=fun s=>back (.back a) {s with g:=mvL s.fr s.g a 1 2}) hb1 e2;rw[a0A (m:=fun s=>back (.back a) {s with g:=mvL s.fr s.g a 1 2}) e2];have hnot:a ∉ s.gone:=fun hm=>absurd (z0O ha (hs.late.2 a hm)) (by decide);have hgl:isB s.fr (mvL s.fr s.g a 1 2) a 2=true:=by rw[m0J ha];simp
    refine(r12.trans (m2M a hd r12.ok hnot hgl hb2)).mono (by omega) (by omega)
   ·exact(c0I hb1 (congrArg Prod.fst (z0P (s:= {s with log:=bk s.depth s.log (.refs a (a0E a s.refs)),refs:=b0C a s.refs,g:=mvL s.fr s.g a 1 2}) (.back a) hl2))).elim
  ·exact(c0I hb (by simp[k0P,a0B,back,show 1000000000≤s.log.length by omega])).elim
 ·have e:e0B a s=a0B (g0R a (m0L (d0K s a-1))) (fun _=>ret false) s:=by simp[e0B,hi,h0,h1]
  rw[e]at hb ⊢;have r1:=y0Y hd hs a (m0L (d0K s a-1)) (hs.held a (m1Q h0));cases e1:g0R a (m0L (d0K s a-1)) s with
  |mk o t=>
  rw[e1]at r1;cases o with
  |big=>exact(c0I hb (by rw[e1])).elim
  |err e'=>rw[a0I e1];exact r1.mono (by omega) (by omega)
  |ok u=>rw[a0A e1];exact r1.mono (by omega) (by omega)
section
section
variable {α:Type} {c k:Nat}
theorem l0B {p:Prop} [Decidable p] {m n:M α} (h:UM c k m) (j:UM c k n):UM c k (if p then m else n):=by split<;>assumption
theorem k0U {m:M α} (h:UM 0 0 m):UM c k m:=h.mono (by omega) (by omega)
end
theorem h1R (a:Int):UM 0 0 (g0W a):=c0E (m1P a) fun _=>y1X _
theorem o1I (x:Hd): ∀n,UM 0 0 (f0N x n)
 |0=>c0X _
 |n+1=>c0E (l0B (c0E (m1P _) fun _=>l0B (w0H _) (c0X _)) (c0X _)) fun _=>c0E (o1I x n) fun _=>c0X _
theorem z1A (a:Int):UM 0 0 (k0R a):=l0B (c0X _) (c0E (h1R a) fun x=>o1I x 4)
theorem r2S (a:Int):UM 0 0 (r0J a):=l0B (c0X _) (c0E (h1R a) fun _=>c0X _)
theorem m2N (a:Int):UM 1 0 (s0V a):=l0B (k0U (c0X _)) (a1W a)
theorem r1U (data:B): ∀n,UM (n*3) n (m0X data n)
 |0=>c0X _
 |n+1=>(c0E (c:=3) (k:=1) (l0B (k0U (c0X _)) (c0E (z0Q _) fun _=>c0X _)) fun _=>c0E (r1U data n) fun _=>c0X _).mono (by omega) (by omega)
theorem r2T (data:B):UM 16 5 (i0Q data):=by
 unfold i0Q;refine l0B (k0U (w0H _)) (l0B (k0U (c0X _)) ?_);intro s hd hs hb;cases h:a0E (key s.bits (Sha.sum data)) s.index with
 |some a=>
  simp only[h]at hb ⊢;exact((c0E (z1A a) fun was=>l0B (k0U (w0H _)) (c0E (a1W a) fun _=>c0X a)) s hd hs hb).mono (by omega) (by omega)
 |none=>
  simp only[h]at hb ⊢;exact((c0E (r1U data 4) fun ps=>c0E (z0Q _) fun a=>c0E (c2F (m:=fun s=>e0X (key s.bits (Sha.sum data)) a) fun _=>g1G _ _) fun _=>c0X a) s hd hs hb).mono (by omega) (by omega)
theorem c2J (i:Int):UM 4 0 (j0A i):=l0B (c0E (x0B i) fun _=>c0X _) (k0U (c0X _))
theorem k0V (k:Nat): ∀n l,(g0I k n l).length=n
 |0,_=>rfl
 |n+1,l=>by simp[g0I,k0V k n]
theorem w1R {b:B} {x:Hd} (h:h0H b= .ok x):x.at_.length=4:=by
 unfold h0H at h;split at h
 ·cases h
 ·cases h
 ·split at h
  ·cases h
  ·split at h
   ·cases h
   ·cases h;simp[k0V]
theorem w1S {l:Nat} {b:B} {x:Nd} (h:f0Q l b= .ok x):x.kids.length=8:=by
 unfold f0Q at h;split at h
 ·cases h
 ·cases h
 ·split at h
  ·cases h
  ·split at h
   ·cases h
   ·split at h
    ·cases h
    ·cases h;simp[k0V]
theorem r2U {α:Type} {c k:Nat} {a:Int} {f:Hd→M α} (h: ∀x:Hd,x.at_.length=4→UM c k (f x)):UM c k (a0B (g0W a) f):=by
 intro s hd hs hb;have r1:=h1R a s hd hs (c0I hb);cases e:g0W a s with
 |mk o t=>
 rw[e]at r1;cases o with
 |big=>exact(c0I hb (by rw[e])).elim
 |err e'=>rw[a0I e];exact r1.mono (by omega) (by omega)
 |ok x=>
  have hx:x.at_.length=4:=by
   unfold g0W a0B at e;split at e
   ·simp only[t0P,Prod.mk.injEq]at e;exact w1R e.1
   ·cases e
   ·cases e
  have hb2:=o0S hb e;rw[a0A e];exact(r1.trans (h x hx t (by rw[r1.depth];exact hd) r1.ok hb2)).mono (by omega) (by omega)
theorem h1S (a:Int):UM 21 0 (g0D a):=by
 unfold g0D;refine l0B (k0U (c0X _)) (r2U fun x hx=> ?_);refine(c0E (x0B a) (c':=17) (k':=0) fun b=> ?_).mono (by omega) (by omega);cases b with
 |false=>exact k0U (c0X _)
 |true=>
  simp only[if_true];have h1:=z0N (c:=4) (k:=0) c2J x.at_;rw[hx]at h1;exact(c0E h1 fun _=>c2F (m:=fun s=>g0Z (key s.bits x.sum)) fun _=>d1G _).mono (by omega) (by omega)
theorem f1H (a:Int) (l:Nat):UM 0 0 (load a l):=l0B (c0X _) (c0E (m1P a) fun _=>y1X _)
theorem h0U {a:Int} {l:Nat} {s t:St} {n:Nd} (h:load a l s=(.ok n,t)):n.kids.length=8:=by
 unfold load at h;split at h
 ·cases h;rfl
 ·unfold a0B at h;split at h
  ·simp only[t0P,Prod.mk.injEq]at h;exact w1S h.1
  ·cases h
  ·cases h
theorem m1R {α:Type} {c k:Nat} {a:Int} {l:Nat} {f:Nd→M α} (h: ∀n:Nd,n.kids.length=8→UM c k (f n)):UM c k (a0B (load a l) f):=by
 intro s hd hs hb;have r1:=f1H a l s hd hs (c0I hb);cases e:load a l s with
 |mk o t=>
 rw[e]at r1;cases o with
 |big=>exact(c0I hb (by rw[e])).elim
 |err e'=>rw[a0I e];exact r1.mono (by omega) (by omega)
 |ok x=>
  have hb2:=o0S hb e;rw[a0A e];exact(r1.trans (h x (h0U e) t (by rw[r1.depth];exact hd) r1.ok hb2)).mono (by omega) (by omega)
theorem r1V (a:Int) (l:Nat):UM 1 0 (g0N a l):=l0B (k0U (c0X _)) (l0B (m2N a) (a1W a))
def j0M:Nat→Nat
 |0=>21
 |l+1=>4+8*j0M l
theorem r1W: ∀(l:Nat) (a:Int),UM (j0M l) 0 (g0E l a)
 |0,a=>h1S a
 |l+1,a=>by
  unfold g0E;refine l0B (k0U (c0X _)) (m1R fun n hn=> ?_);refine(c0E (x0B a) (c':=8*j0M l) (k':=0) fun b=> ?_);cases b with
  |false=>exact k0U (c0X _)
  |true=>
   simp only[if_true];have h1:=z0N (c:=j0M l) (k:=0) (r1W l) n.kids;rw[hn]at h1;exact h1.mono (by omega) (by omega)
theorem h1T (a:Int) (l:Nat):UM (j0M (l+1)) 0 (u0E a l):=r1W (l+1) a
theorem h1U (l:Nat): ∀ks,UM 0 0 (g0O l ks)
 | []=>c0X _
 |k::ks=>by
  unfold g0O;refine c0E ?_ fun _=>c0E (h1U l ks) fun _=>c0X _;cases l with
  |zero=>exact r2S k
  |succ n=>exact c0E (f1H k n) fun _=>c0X _
def f0W:Nat→Nat
 |0=>8+j0M 1+21+3
 |l+1=>8+j0M (l+2)+f0W l+3
theorem z1B: ∀(l:Nat) (root:Int) (at_:Nat) (to_:Int),UM (f0W l) (l+1) (i0F l root at_ to_)
 |0,root,at_,to_=>by
  unfold i0F;refine m1R fun n hn=> ?_;have h1:=z0N (c:=1) (k:=0) (f:=(g0N · 0)) (r1V · 0) n.kids;rw[hn]at h1;refine(c0E h1 fun _=>c0E (h1T root 0) fun _=>c0E (c0E (h1S _) fun _=>c0X to_) fun r=> ?_:UM (8*1+(j0M 1+(21+0+3))) (8*0+(0+(0+0+1))) _).mono (by simp only[f0W];omega) (by omega);exact l0B (k0U (c0X _)) ((c0E (h1U _ _) fun _=>z0Q _).mono (by omega) (by omega))
 |l+1,root,at_,to_=>by
  unfold i0F;refine m1R fun n hn=> ?_;have h1:=z0N (c:=1) (k:=0) (f:=(g0N · (l+1))) (r1V · (l+1)) n.kids;rw[hn]at h1;refine(c0E h1 fun _=>c0E (h1T root (l+1)) fun _=>c0E (z1B l _ _ to_) fun r=> ?_:UM (8*1+(j0M (l+2)+(f0W l+3))) (8*0+(0+(l+1+1))) _).mono (by simp only[f0W];omega) (by omega);exact l0B (k0U (c0X _)) ((c0E (h1U _ _) fun _=>z0Q _).mono (by omega) (by omega))
theorem m1S: ∀(l:Nat) (root:Int) (at_:Nat),UM 0 0 (k0S l root at_)
 |0,root,at_=>c0E (f1H root 0) fun _=>c0X _
 |l+1,root,at_=>c0E (f1H root (l+1)) fun _=>m1S l _ _
theorem z1C (root:Int) (at_:Nat) (to_:Int):UM (f0W 2) 3 (l0P root at_ to_):=
 (c0E (m1S 2 root at_) fun x=>l0B (c:=f0W 2) (k:=3) ((c0E (h1S to_) fun _=>c0X root).mono (by decide) (by omega)) (z1B 2 root at_ to_)).mono (by omega) (by omega)
theorem m1T (id:Int):UM 0 0 (find id):=fun s hd hs _=>by unfold find;split<;>exact Rel.refl hs
theorem h1V (id:Int):UM 0 0 (l0H id):=c0E (m1T id) fun _=>l0B (w0H _) (c0X _)
theorem h2C (x:Ent) (a n:Int):UM 0 0 (l0E x a n):=l0B (w0H _) (c0X _)
theorem w0I (x:Ent):UM 1 0 (l0Q x):=c2G _ _
theorem r2V (x:Ent):UM 2 0 (v0E x):=c2F (m:=fun s=>a0B (p0H (m0N (s.next+1))) (fun _=>a0B (l0Q {x with id:=s.next,born:=s.epoch}) fun _=>ret s.next)) fun s=>c0E (c2I _) fun _=>c0E (w0I _) fun _=>c0X _
theorem z1D (x:Ent) (i:Nat):UM 0 0 (o0U x i):=c0E (m1S 2 x.root i) z1A
theorem r2W (x:Ent) (i:Nat) (data:B):UM (16+f0W 2) 8 (r0K x i data):=c0E (r2T data) fun a=>c0E (z1C x.root i a) fun _=>c0X _
theorem r1X: ∀(n:Nat) (x:Ent) (at_:Nat) (data:B) (m:Nat),data.length≤64*m→data.length%64=0→UM (m*(16+f0W 2)) (m*8) (j0L n x at_ data)
 |0,x,at_,data,m,_,_=>k0U (c0X _)
 |n+1,x,at_,data,m,h,h64=>by
  unfold j0L;by_cases h0:data= []
  ·rw[if_pos h0];exact k0U (c0X _)
  ·rw[if_neg h0];have hl:data.length≠0:=fun e=>h0 (List.eq_nil_of_length_eq_zero e);obtain⟨m,rfl⟩: ∃m',m=m'+1:=⟨m-1,by omega⟩;have hmin:(data.drop (min data.length (256-at_%4*64))).length≤64*m:=by simp;omega
   have hmod:(data.drop (min data.length (256-at_%4*64))).length%64=0:=by simp;omega
   exact(c0E (z1D x _) fun was=>c0E (r2W x _ _) fun x=>r1X n x _ _ m hmin hmod).mono (by rw[Nat.succ_mul];omega) (by rw[Nat.succ_mul];omega)
end
theorem m0A (x k:Nat): ∀m,(beB x k m).length=m
 |0=>rfl
 |m+1=>by simp[beB,m0A x k m]
theorem v2Q (a:B): ∀(b:B),be (a++b)=be a*256^b.length+be b:=by
 intro b;have h: ∀(b:B) (n:Nat),b.foldl (fun n c=>n*256+c.toNat) n=n*256^b.length+b.foldl (fun n c=>n*256+c.toNat) 0:=by
  intro b
  induction b with
  |nil=>intro n;simp
  |cons c b ih=>
   intro n;simp only[List.foldl_cons,List.length_cons];rw[ih (n*256+c.toNat),ih (0*256+c.toNat),Nat.pow_succ];simp only[Nat.zero_mul,Nat.zero_add,Nat.add_mul,Nat.mul_assoc,Nat.mul_comm 256,Nat.add_assoc]
 unfold be;rw[List.foldl_append,h b]
theorem z1E (x k:Nat): ∀m,m≤k→be (beB x k m)=x/256^(k-m)%256^m
 |0,_=>by simp[beB,be,Nat.mod_one]
 |m+1,h=>by
  have ih:=z1E x k m (by omega);have e1:be [UInt8.ofNat (x/256^(k-1-m))]=x/256^(k-1-m)%256:=by simp[be]
  have hk:k-m=(k-1-m)+1:=by omega
  have hk2:k- (m+1)=k-1-m:=by omega
  rw[beB,v2Q,ih,e1,hk2,hk];generalize k-1-m=j;rw[Nat.pow_succ,←Nat.div_div_eq_div_mul];generalize x/256^j=y;have e2:256^(m+1)=256*256^m:=by rw[Nat.pow_succ,Nat.mul_comm]
  rw[e2,Nat.mod_mul];simp only[List.length_singleton,Nat.pow_one];rw[Nat.mul_comm];omega
theorem r1Y {x k:Nat} (h:x<256^k):be (beB x k k)=x:=by
 rw[z1E x k k (Nat.le_refl _),Nat.sub_self,Nat.pow_zero,Nat.div_one,Nat.mod_eq_of_lt h]
theorem r1Z {a:Int} {k:Nat} (h0:0≤a) (h:a<256^k) (hk:k≤7):(be (num a k):Int)=a:=by
 have h2:(256:Nat)^k≤256^7:=Nat.pow_le_pow_right (by decide) hk;have h3:a.toNat<256^k:=by
  have:((256^k:Nat):Int)=(256:Int)^k:=by simp
  omega
 have e:u64 a=a.toNat:=by unfold u64;omega
 unfold num;rw[e,r1Y h3];omega
theorem j0W (a:Int) (k:Nat):(num a k).length=k:=m0A _ _ _
theorem a1X {α:Type} {f:α→B} {k:Nat} (h: ∀x,(f x).length=k) (t:B): ∀(l:List α),g0I k l.length (l.flatMap f++t)=l.map fun a=>be (f a)
 | []=>rfl
 |x::l=>by
  simp only[List.length_cons,g0I,List.flatMap_cons,List.append_assoc,List.map_cons];rw[List.take_left' (h x),List.drop_left' (h x),a1X h t l]
theorem q0H {n:Nat} {l:B} (h:l.length≤n):(f0T n l).length=n:=by simp[f0T,a0K];omega
theorem f1I (b:B):f0V b<256^4:=by have:=(Crc.crc b).isLt;unfold f0V;omega
theorem o1J {b:B} (h:b.length≤60):h0G (u0D b)= .ok (f0T 60 b):=by
 have h1:=q0H h;have h2:(beB (f0V (f0T 60 b)) 4 4).length=4:=m0A _ _ _;unfold h0G u0D;simp only[List.length_append,h1,h2];rw[if_neg (by omega),if_neg (by omega),List.drop_left' h1,List.take_left' h1,List.take_of_length_le (by omega),r1Y (f1I _)];simp
theorem g1I {b:B} (h:b.length≤60):(u0D b).length=64:=by
 unfold u0D;rw[List.length_append,q0H h,m0A]
theorem d0L (n:Nat):a0R (a0K n)=true:=by simp[a0R,a0K]
structure HdOK (x:Hd):Prop where
 n:x.at_.length=4
 at_: ∀a∈x.at_,0≤a∧a<65536
 m:x.sums.length=4
 sums: ∀c∈x.sums,c<4294967296
 sum:x.sum.length=32
theorem h0S {α:Type} {f:α→B} {k:Nat} (h: ∀x,(f x).length=k): ∀l:List α,(l.flatMap f).length=l.length*k
 | []=>by simp
 |x::l=>by simp[h,h0S h l,Nat.succ_mul,Nat.add_comm]
theorem z1F {x:Hd} (h:HdOK x):h0H (h0F x)= .ok x∧(h0F x).length=64:=by
 have l1:(x.at_.flatMap (num · 2)).length=8:=by rw[h0S (k:=2) fun a=>j0W a 2,h.n]
 have l2:(x.sums.flatMap fun s=>beB s 4 4).length=16:=by rw[h0S (k:=4) fun a=>m0A a 4 4,h.m]
 have hl:([69]++x.at_.flatMap (num · 2)++x.sums.flatMap (fun s=>beB s 4 4)++x.sum).length=57:=by simp only[List.length_append,l1,l2,h.sum,List.length_singleton]
 refine⟨?_,g1I (by omega)⟩;unfold h0H h0F;rw[o1J (by omega)];generalize hA:x.at_.flatMap (num · 2)=A at*
 generalize hS:x.sums.flatMap (fun s=>beB s 4 4)=S at*
 have e:f0T 60 ([69]++A++S++x.sum)= [69]++(A++(S++(x.sum++a0K 3))):=by
  unfold f0T;rw[hl];simp only[List.append_assoc]
 simp only[e];have d1:([69]++(A++(S++(x.sum++a0K 3)))).drop 1=A++(S++(x.sum++a0K 3)):=rfl;have d9:([69]++(A++(S++(x.sum++a0K 3)))).drop 9=S++(x.sum++a0K 3):=by
  show(A++(S++(x.sum++a0K 3))).drop 8=_;exact List.drop_left' l1
 have d25:([69]++(A++(S++(x.sum++a0K 3)))).drop 25=x.sum++a0K 3:=by
  rw[show(25:Nat)=9+16 from rfl,←List.drop_drop,d9];exact List.drop_left' l2
 have d57:([69]++(A++(S++(x.sum++a0K 3)))).drop 57=a0K 3:=by
  rw[show(57:Nat)=25+32 from rfl,←List.drop_drop,d25];exact List.drop_left' h.sum
 rw[d1,d9,d25,d57,List.take_left' h.sum];have n1:g0I 2 4 (A++(S++(x.sum++a0K 3)))=x.at_.map fun a=>be (num a 2):=by
  have:=a1X (fun a=>j0W a 2) (S++(x.sum++a0K 3)) x.at_;rw[h.n,hA]at this;exact this
 have n2:g0I 4 4 (S++(x.sum++a0K 3))=x.sums:=by
  have:=a1X (fun a=>m0A a 4 4) (x.sum++a0K 3) x.sums;rw[h.m,hS]at this;rw[this];refine(List.map_congr_left (g:=id) fun c hc=> ?_).trans (List.map_id _);exact r1Y (Nat.lt_of_lt_of_eq (h.sums c hc) (by decide))
 rw[n1,n2];have n3:(x.at_.map fun a=>be (num a 2)).map Int.ofNat=x.at_:=by
  rw[List.map_map];refine(List.map_congr_left (g:=id) fun a ha=> ?_).trans (List.map_id _);exact r1Z (h.at_ a ha).1 (by have:=(h.at_ a ha).2;simpa using this) (by decide)
 rw[n3];simp[d0L]
structure NdOK (x:Nd):Prop where
 n:x.kids.length=8
 kids: ∀a∈x.kids,0≤a∧a<65536
 sum:x.sum.length=32
theorem z1G {x:Nd} {l:Nat} (hl:l<256) (h:NdOK x):f0Q l (j0B l x)= .ok x∧(j0B l x).length=64:=by
 have l1:(x.kids.flatMap (num · 2)).length=16:=by rw[h0S (k:=2) fun a=>j0W a 2,h.n]
 have l0:(num l 1).length=1:=j0W _ _;have hl':([78]++num l 1++x.kids.flatMap (num · 2)++x.sum).length=50:=by simp only[List.length_append,l1,l0,h.sum,List.length_singleton]
 refine⟨?_,g1I (by omega)⟩;unfold f0Q j0B;rw[o1J (by omega)];have hb:be (num l 1)=l:=by
  have:=r1Z (a:=(l:Int)) (k:=1) (by omega) (by simp;omega) (by decide);omega
 generalize hA:x.kids.flatMap (num · 2)=A at*
 generalize num (l:Int) 1=N at*
 have e:f0T 60 ([78]++N++A++x.sum)= [78]++(N++(A++(x.sum++a0K 10))):=by
  unfold f0T;rw[hl'];simp only[List.append_assoc]
 simp only[e];have d1:([78]++(N++(A++(x.sum++a0K 10)))).drop 1=N++(A++(x.sum++a0K 10)):=rfl;have d2:([78]++(N++(A++(x.sum++a0K 10)))).drop 2=A++(x.sum++a0K 10):=by
  show(N++(A++(x.sum++a0K 10))).drop 1=_;exact List.drop_left' l0
 have d18:([78]++(N++(A++(x.sum++a0K 10)))).drop 18=x.sum++a0K 10:=by
  rw[show(18:Nat)=2+16 from rfl,←List.drop_drop,d2];exact List.drop_left' l1
 have d50:([78]++(N++(A++(x.sum++a0K 10)))).drop 50=a0K 10:=by
  rw[show(50:Nat)=18+32 from rfl,←List.drop_drop,d18];exact List.drop_left' h.sum
 rw[d1,d2,d18,d50,List.take_left' h.sum,List.take_left' l0,hb];have n1:g0I 2 8 (A++(x.sum++a0K 10))=x.kids.map fun a=>be (num a 2):=by
  have:=a1X (fun a=>j0W a 2) (x.sum++a0K 10) x.kids;rw[h.n,hA]at this;exact this
 rw[n1];have n3:(x.kids.map fun a=>be (num a 2)).map Int.ofNat=x.kids:=by
  rw[List.map_map];refine(List.map_congr_left (g:=id) fun a ha=> ?_).trans (List.map_id _);exact r1Z (h.kids a ha).1 (by have:=(h.kids a ha).2;simpa using this) (by decide)
 rw[n3];simp[d0L]
end Go.Sb

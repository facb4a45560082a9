/- Part of the proof; no statement of its own. -/
import Derived.Test.YtpinhnikemamjaaGreatDoorD16
import Derived.Test.YtpinhnikemamjaaGreatDoorProg
import Derived.KernelRfl
import Derived.Test.YtpinhnikemamjaaGreatDoorD08
import Derived.Test.YtpinhnikemamjaaGreatDoorD02
set_option linter.all false
set_option maxRecDepth 4000
set_option maxHeartbeats 4000000
namespace Go.Sb
section
def kc (G:Gh) (x a:Int):Nat:=match a0C a G with|some o=>(d0O o).count x|none=>0
def i0D (G:Gh) (S:List Int) (x:Int):Nat:=(S.map (kc G x)).sum
def up (T:Int→Nat) (a:Int):Int→Nat:=fun x=>T x+if a=x then 1 else 0
def ups (T:Int→Nat) (a:List Int):Int→Nat:=fun x=>T x+a.count x
structure s1G (s0 s:St):Prop where
 d:s.d=s0.d
 fr:s.fr=s0.fr
 young:s.young=s0.young
 gone:s.gone=s0.gone
 keep:s.keep=s0.keep
 log:s.log=s0.log
 depth:s.depth=s0.depth
 bits:s.bits=s0.bits
 next:s.next=s0.next
 epoch:s.epoch=s0.epoch
theorem s1G.of {s0 s:St} (h:s1G s0 s) (g:List Nat) (r:List (Int×Int)) (i:List (B×Int)) (v:List (Int×Ent)):s1G s0 {s with g:=g,refs:=r,index:=i,vols:=v} :=⟨h.d,h.fr,h.young,h.gone,h.keep,h.log,h.depth,h.bits,h.next,h.epoch⟩
structure AI (G:Gh) (s0 s:St) (S:List Int) (T:Int→Nat) (F:List Int):Prop where
 same:s1G s0 s
 fr:s0.fr=2
 hi:s0.fr+s.g.length≤65535
 mrefs:mok s.refs
 mindex:mok s.index
 nod:S.Nodup
 off: ∀a,a∈F→a ∉ S
 some_: ∀a,a∈S∨a∈F→(a0C a G).isSome=true
 refs: ∀a,a≠0→a0C a s.refs=if T a+i0D G S a=0 then none else some ((T a+i0D G S a:Nat):Int)
 live: ∀a,a≠0→(T a+i0D G S a≠0↔a∈S∨a∈F)
 held: ∀a,isB s.fr s.g a 1=true↔a∈S∨a∈F
 free: ∀a,(a0C a G).isSome=true→a ∉ S→a ∉ F→isB s.fr s.g a 0=true
 cnt:s.g.count 1=S.length+F.length
 idx: ∀k a,a0C k s.index=some a↔a∈S∧ ∃d ats,a0C a G=some (.ext d ats)∧k=key s.bits (Sha.sum d)
 zr:a0C 0 s.refs=none
 gl:s.g.length=s0.g.length
theorem c1M (G:Gh) (S:List Int) (a x:Int):i0D G (a::S) x=kc G x a+i0D G S x:=by simp[i0D]
theorem u1R {G:Gh} (b: ∀a o,a0C a G=some o→(d0O o).length≤8) (x:Int): ∀S:List Int,i0D G S x≤8*S.length
 | []=>by simp[i0D]
 |a::S=>by
  have d:=u1R b x S;have e:kc G x a≤8:=by
   unfold kc;split
   ·rename_i o c;exact Nat.le_trans List.count_le_length (b a o c)
   ·omega
  rw[c1M,List.length_cons];omega
section
variable {G:Gh} {s0 s:St} {S F P:List Int} {T:Int→Nat}
theorem AI.refsOf (h:AI G s0 s S T F) {a:Int} (b:a≠0):c0N s a=((T a+i0D G S a:Nat):Int):=by
 unfold Go.Sb.c0N;rw[h.refs a b];by_cases e:T a+i0D G S a=0
 ·rw[if_pos e,e];rfl
 ·rw[if_neg e];rfl
theorem AI.len (h:AI G s0 s S T F):S.length≤65535:=by
 have a:=h.cnt;have b:=h.hi;have c:s.g.count 1≤s.g.length:=List.count_le_length;omega
theorem AI.again (h:AI G s0 s S T F) (i: ∀a o,a0C a G=some o→(d0O o).length≤8) {a:Int} (c:a≠0) (j:inR a=true) (n:T a≤1000000) (b:a∈S∨a∈F):
 ∃s',e0Z a s=(.ok false,s')∧AI G s0 s' S (up T a) F:=by
 have f:=h.refsOf c;have k:=(h.live a c).2 b;have l:=u1R i a S;have m:=h.len;refine⟨{s with refs:=b0O a (((T a+1)+i0D G S a:Nat):Int) s.refs},?_,?_⟩
 ·unfold e0Z;rw[if_neg (by rw[j];decide),if_pos (by omega),f,e1K (by omega) (by omega)];rw[show((T a+i0D G S a:Nat):Int)+1=(((T a+1)+i0D G S a:Nat):Int) by omega]
 ·refine⟨h.same.of s.g _ s.index s.vols,h.fr,h.hi,k0E _ _ h.mrefs,h.mindex,h.nod,h.off,h.some_,fun x d=> ?_,fun x d=> ?_,h.held,h.free,h.cnt,h.idx,by show a0C 0 (b0O a _ s.refs)=none;rw[f0N,if_neg c];exact h.zr,h.gl⟩
  ·show a0C x (b0O a _ s.refs)=_;rw[f0N];unfold up;by_cases e:a=x
   ·subst e;simp
   ·rw[if_neg e,if_neg e,Nat.add_zero];exact h.refs x d
  ·unfold up;by_cases e:a=x
   ·subst e;simp[b]
   ·rw[if_neg e,Nat.add_zero];exact h.live x d
theorem AI.first (h:AI G s0 s S T F) {a:Int} (i:a≠0) (n:inR a=true) (k:(a0C a G).isSome=true) (f:a ∉ S) (j:a ∉ F):
 ∃s',e0Z a s=(.ok true,s')∧AI G s0 s' S (up T a) (a::F):=by
 have p:T a+i0D G S a=0:=by
  by_cases e:T a+i0D G S a=0
  ·exact e
  ·rcases(h.live a i).1 e with g|g
   ·exact(f g).elim
   ·exact(j g).elim
 have o:=h.refsOf i;have c:=h.free a k f j;refine⟨{s with g:=mvL s.fr s.g a 0 1,refs:=b0O a 1 s.refs},?_,?_⟩
 ·unfold e0Z;rw[if_neg (by rw[n];decide),if_neg (by omega),if_neg (by rw[c];decide)]
 ·refine⟨h.same.of _ _ s.index s.vols,h.fr,by show _+(mvL _ _ _ _ _).length≤_;rw[l0Q];exact h.hi,k0E _ _ h.mrefs,h.mindex,h.nod,fun x b=> ?_,fun x b=> ?_,fun x b=> ?_,fun x b=> ?_,fun x=> ?_,fun x b l d=> ?_,?_,h.idx,by show a0C 0 (b0O a _ s.refs)=none;rw[f0N,if_neg i];exact h.zr,by show(mvL _ _ _ _ _).length=_;rw[l0Q];exact h.gl⟩
  ·rcases List.mem_cons.1 b with rfl|b
   ·exact f
   ·exact h.off x b
  ·rcases b with b|b
   ·exact h.some_ x (.inl b)
   ·rcases List.mem_cons.1 b with rfl|b
    ·exact k
    ·exact h.some_ x (.inr b)
  ·show a0C x (b0O a _ s.refs)=_;rw[f0N];unfold up;by_cases e:a=x
   ·subst e;rw[if_pos rfl,if_pos rfl,if_neg (by omega),show T a+1+i0D G S a=1 by omega];rfl
   ·rw[if_neg e,if_neg e,Nat.add_zero];exact h.refs x b
  ·unfold up;by_cases e:a=x
   ·subst e;simp
   ·rw[if_neg e,Nat.add_zero,h.live x b,List.mem_cons];exact⟨fun g=>g.imp id .inr,fun g=>g.imp id fun g=>g.resolve_left (Ne.symm e)⟩
  ·show isB s.fr (mvL s.fr s.g a 0 1) x 1=true↔_;rw[l0F c,List.mem_cons];by_cases e:x=a
   ·simp[e]
   ·rw[if_neg e,h.held x];exact⟨fun g=>g.imp id .inr,fun g=>g.imp id fun g=>g.resolve_left e⟩
  ·show isB s.fr (mvL s.fr s.g a 0 1) x 0=true;rw[List.mem_cons,not_or]at d;rw[l0F c,if_neg d.1];exact h.free x b l d.2
  ·show(mvL s.fr s.g a 0 1).count 1=_;have m:=q0S (w:=1) (x:=1) c;have:=h.cnt;simp at m;rw[List.length_cons];omega
theorem AI.closeI {a:Int} {o:Ob} (h:AI G s0 s S (ups (up T a) (d0O o)) (a::F)) (n:a ∉ F) (q:a0C a G=some o) (ix:List (B×Int)) (j:mok ix) (f: ∀k x,a0C k ix=some x↔x∈a::S∧ ∃d ats,a0C x G=some (.ext d ats)∧k=key s.bits (Sha.sum d)):AI G s0 {s with index:=ix} (a::S) (up T a) F:=by
 have p:=h.off a (List.mem_cons_self ..);have l: ∀x,up T a x+i0D G (a::S) x=ups (up T a) (d0O o) x+i0D G S x:=fun x=>by
  rw[c1M];unfold ups kc;rw[q];simp only;omega
 have i: ∀x,(x∈a::S∨x∈F)↔(x∈S∨x∈a::F):=fun x=>by simp only[List.mem_cons];exact⟨fun g=>by rcases g with (g|g)|g;(· exact .inr (.inl g));(· exact .inl g);(· exact .inr (.inr g)),fun g=>by rcases g with g|g|g;(· exact .inl (.inr g));(· exact .inl (.inl g));(· exact .inr g)⟩
 refine⟨h.same.of s.g s.refs ix s.vols,h.fr,h.hi,h.mrefs,j,List.nodup_cons.2 ⟨p,h.nod⟩,fun x b c=> ?_,fun x b=>h.some_ x ((i x).1 b),fun x b=>by rw[l];exact h.refs x b,fun x b=>by rw[l,i];exact h.live x b,fun x=>by rw[i];exact h.held x,fun x b e m=> ?_,by have:=h.cnt;rw[List.length_cons]at this ⊢;show s.g.count 1=_;omega,f,h.zr,h.gl⟩
 ·rcases List.mem_cons.1 c with rfl|c
  ·exact n b
  ·exact h.off x (List.mem_cons_of_mem _ b) c
 ·rw[List.mem_cons,not_or]at e;exact h.free x b e.2 fun g=>by rcases List.mem_cons.1 g with g|g;(· exact e.1 g);(· exact m g)
theorem AI.close {a:Int} {o:Ob} (h:AI G s0 s S (ups (up T a) (d0O o)) (a::F)) (f:a ∉ F) (e:a0C a G=some o) (c: ∀d ats,o≠ .ext d ats):AI G s0 s (a::S) (up T a) F:=
 h.closeI f e s.index h.mindex fun k x=>by
  rw[h.idx k x,List.mem_cons];constructor
  ·rintro⟨b,g2⟩;exact⟨.inr b,g2⟩
  ·rintro⟨b,d,ats,g2,g3⟩;rcases b with rfl|b
   ·rw[e]at g2;exact(c d ats (Option.some.inj g2)).elim
   ·exact⟨b,d,ats,g2,g3⟩
theorem AI.congr {b:Int→Nat} (h:AI G s0 s S T F) (c: ∀x,x≠0→b x=T x):AI G s0 s S b F:=
 ⟨h.same,h.fr,h.hi,h.mrefs,h.mindex,h.nod,h.off,h.some_,fun x a=>by rw[c x a];exact h.refs x a,fun x a=>by rw[c x a];exact h.live x a,h.held,h.free,h.cnt,h.idx,h.zr,h.gl⟩
theorem AI.up0 (h:AI G s0 s S T F):AI G s0 s S (up T 0) F:=h.congr fun x a=>by unfold up;rw[if_neg (Ne.symm a),Nat.add_zero]
theorem AI.get {w:St} (h:AI G s0 s S T F) (b:Inv w G P) (hd:s0.d=w.d) {a:Int} {o:Ob} (c:a0C a G=some o) (f:a∈S∨a∈F):g0X a s=(.ok (l0J o),s):=by
 have e:=b.get c;have g:=(h.live a (b.ne0 c)).2 f;have i:=h.refsOf (b.ne0 c);have j:=b.refsOf (b.ne0 c);have k:=b.need_pos c;unfold g0X at e ⊢;rw[if_neg (by omega)]at e ⊢;rw[h.same.d,hd];rw[Prod.mk.injEq]at e;rw[e.1]
theorem AI.load {w:St} (h:AI G s0 s S T F) (e:Inv w G P) (hd:s0.d=w.d) {a:Int} {l:Nat} {g:List Int} {i:B} (c:a0C a G=some (.node l g i)) (f:a∈S∨a∈F):load a l s=(.ok {kids:=g,sum:=i},s):=by
 have b:=e.load c;unfold Go.Sb.load at b ⊢;rw[if_neg (e.ne0 c)]at b ⊢;rw[a0A (e.get c)]at b;rw[a0A (h.get e hd c f)];unfold s0H at b ⊢;rw[Prod.mk.injEq]at b;rw[b.1]
theorem AI.xhead {w:St} (h:AI G s0 s S T F) (f:Inv w G P) (hd:s0.d=w.d) {a:Int} {d:B} {ats:List Int} (e:a0C a G=some (.ext d ats)) (c:a∈S∨a∈F):e0U a s=(.ok (m0K d ats),s):=by
 have b:=f.xhead e;unfold Go.Sb.e0U at b ⊢;rw[a0A (f.get e)]at b;rw[a0A (h.get f hd e c)];unfold s0H at b ⊢;rw[Prod.mk.injEq]at b;rw[b.1]
theorem e2X (T:Int→Nat) (a:Int):ups (up T a) []=up T a:=by funext x;unfold ups;simp
theorem AI.parts {w:St} (j:Inv w G P) {a:Int} {d:B} {ats:List Int} (q:a0C a G=some (.ext d ats)) (O:a ∉ F) (i: ∀x b,a0C x G=some (.part b)→T x=0): ∀(n c:List Int) {s:St} {S:List Int},c++n=ats→AI G s0 s S (ups (up T a) c) (a::F)→a ∉ S→
 ∃s' S',d0V h0P n s=(.ok (),s')∧AI G s0 s' S' (ups (up T a) (c++n)) (a::F)∧(∀x∈S,x∈S')∧a ∉ S'
 | [],c,s,S,_,h,ha=>⟨s,S,rfl,by rw[List.append_nil];exact h,fun _ h=>h,ha⟩
 |k::n,c,s,S,hp,h,ha=>by
  have J:=j.typ a _ q;have p:k∈ats:=by rw[←hp];simp
  have r:(c++ [k])++n=ats:=by rw[←hp];simp
  by_cases C:k=0
  ·subst C;have E:h0P 0 s=(.ok (),s):=by unfold h0P;rw[if_neg (by omega)];rfl
   have R:AI G s0 s S (ups (up T a) (c++ [0])) (a::F):=⟨h.same,h.fr,h.hi,h.mrefs,h.mindex,h.nod,h.off,h.some_,fun x m=>by have:=h.refs x m;unfold ups at this ⊢;rw[List.count_append,List.count_cons_of_ne (Ne.symm m),List.count_nil,Nat.add_zero];exact this,
    fun x m=>by have:=h.live x m;unfold ups at this ⊢;rw[List.count_append,List.count_cons_of_ne (Ne.symm m),List.count_nil,Nat.add_zero];exact this,h.held,h.free,h.cnt,h.idx,h.zr,h.gl⟩
   obtain⟨M,D,I,A,K,L⟩:=AI.parts j q O i n (c++ [0]) r R ha;exact⟨M,D,by unfold d0V;rw[a0A E];exact I,by rw[List.append_assoc,List.singleton_append]at A;exact A,K,L⟩
  ·obtain⟨b,hb⟩:=(z0B J k p).resolve_left C;have X:=j.lone k b hb;have Y:=j.range hb;have Q:ats.count k=1∧ ∀y,y≠a→kc G k y=0:=by
    have N:ats.count k≠0:=fun e=>List.count_eq_zero.1 e p;have U:=b1W j.nod q k;unfold f0C at X;simp only[d0O]at U;refine⟨by omega,fun y v=> ?_⟩;unfold kc;cases e:a0C y G with
    |none=>rfl
    |some u=>
     simp only;by_cases g:(d0O u).count k=0
     ·exact g
     ·have V:a0C y (b0D a G)=some u:=by rw[c0L a y j.nod,if_neg (Ne.symm v)];exact e
      have:=t0L V (List.count_pos_iff.1 (Nat.pos_of_ne_zero g));omega
   have t:c.count k=0:=by
    have N:=Q.1;rw[←hp,List.count_append,List.count_cons_self]at N;omega
   have hT:ups (up T a) c k=0:=by
    unfold ups up;rw[i k b hb,t,if_neg (fun e=>by subst e;rw[q]at hb;cases hb)]
   have W:i0D G S k=0:=by
    unfold i0D;have: ∀l:List Int,a ∉ l→(l.map (kc G k)).sum=0:=fun l=>by
     induction l with
     |nil=>intro _;rfl
     |cons y l ih=>
      intro v;rw[List.mem_cons,not_or]at v;rw[List.map_cons,List.sum_cons,Q.2 y (Ne.symm v.1),ih v.2]
    exact this S ha
   have f: ¬(k∈S∨k∈a::F):=fun g=>(h.live k C).2 g (by omega);rw[not_or]at f;obtain⟨s1,E,Z⟩:=h.first C (by unfold inR;exact decide_eq_true (by omega)) (by rw[hb];rfl) f.1 f.2;have z:AI G s0 s1 (k::S) (up (ups (up T a) c) k) (a::F):=AI.close (o:= .part b) (by rw[show d0O (.part b)= []from rfl,e2X];exact Z) f.2 hb (fun _ _ e=>by cases e);have ek:up (ups (up T a) c) k=ups (up T a) (c++ [k]):=by
    funext x;unfold up ups;rw[List.count_append,List.count_cons,List.count_nil];by_cases e:k=x<;>simp[e]<;>omega
   rw[ek]at z;have H:h0P k s=(.ok (),s1):=by unfold h0P;rw[if_pos (by omega),a0A E];rfl
   obtain⟨M,D,I,A,K,L⟩:=AI.parts j q O i n (c++ [k]) r z (fun g=>by rcases List.mem_cons.1 g with g|g;(· subst g;exact f.2 (List.mem_cons_self ..));(· exact ha g));exact⟨M,D,by unfold d0V;rw[a0A H];exact I,by rw[List.append_assoc,List.singleton_append]at A;exact A,fun x m=>K x (List.mem_cons_of_mem _ m),L⟩
theorem AI.xadopt {w:St} (h:AI G s0 s S T F) (t:Inv w G P) (u:Idx w G) (hd:s0.d=w.d) (hb:s0.bits=w.bits) {a:Int} (M:a0W G 0 a) (z:a ∉ F) (L:T a≤1000000) (B: ∀x b,a0C x G=some (.part b)→T x=0):
 ∃s' S',k0B a s=(.ok (),s')∧AI G s0 s' S' (up T a) F∧ ∀x∈S,x∈S':=by
 have K: ∀a o,a0C a G=some o→(d0O o).length≤8:=fun a o l=>o1F (t.typ a o l);by_cases r:a=0
 ·subst r;exact⟨s,S,by unfold Go.Sb.k0B;rw[if_pos rfl];rfl,h.up0,fun _ h=>h⟩
 obtain⟨d,ats,l⟩:=M.resolve_left r;have N:=t.range l;have E:inR a=true:=by unfold inR;exact decide_eq_true (by omega)
 unfold Go.Sb.k0B;rw[if_neg r];by_cases A:a∈S
 ·obtain⟨s1,y,v⟩:=h.again K r E L (.inl A);exact⟨s1,S,by rw[a0A y];rfl,v,fun _ h=>h⟩
 ·obtain⟨s1,y,v⟩:=h.first r E (by rw[l];rfl) A z;rw[a0A y];have I:=v.xhead t hd l (.inr (List.mem_cons_self ..));obtain⟨j,H,J,p,O,Q⟩:=AI.parts t l z B ats [] rfl (by rw[e2X];exact v) A;rw[List.nil_append]at p;have C:j.bits=w.bits:=p.same.bits.trans hb;have i:a0C (key j.bits (Sha.sum d)) j.index=none:=by
   cases e:a0C (key j.bits (Sha.sum d)) j.index with
   |none=>rfl
   |some b=>
    obtain⟨f,q,c,m,n⟩:=(p.idx _ _).1 e;rw[C]at n;have D:=(u (key w.bits (Sha.sum d)) b).2 ⟨q,c,m,n⟩;rw[(u _ a).2 ⟨d,ats,l,rfl⟩]at D;cases D;exact(Q f).elim
  refine⟨{j with index:=b0O (key j.bits (Sha.sum d)) a j.index},a::H,?_,AI.closeI (o:= .ext d ats) p z l _ (k0E _ _ p.mindex) (fun k x=> ?_),fun x u=>List.mem_cons_of_mem _ (O x u)⟩
  ·simp only[if_true];rw[a0A I];show a0B (d0V h0P ats) _ s1=_;rw[a0A J];show(match a0C (key j.bits (Sha.sum d)) j.index with|some _=>_|none=>_)=_;rw[i];rfl
  ·rw[f0N,List.mem_cons];by_cases ek:key j.bits (Sha.sum d)=k
   ·rw[if_pos ek];constructor
    ·intro g;cases g;exact⟨.inl rfl,d,ats,l,ek.symm⟩
    ·rintro⟨f,q,c,m,n⟩;rcases f with rfl|f
     ·rfl
     ·have:=(p.idx k x).2 ⟨f,q,c,m,n⟩;rw[←ek,i]at this;cases this
   ·rw[if_neg ek,p.idx k x];constructor
    ·rintro⟨f,m⟩;exact⟨.inr f,m⟩
    ·rintro⟨f,q,c,m,n⟩;rcases f with rfl|f
     ·rw[l]at m;cases m;exact(ek n.symm).elim
     ·exact⟨f,q,c,m,n⟩
theorem g1U {l:Nat} {a:Int} {o:Ob} (c:a0W G l a) (b:a≠0) (f:a0C a G=some o):lev o=l+1:=by
 cases l with
 |zero=>obtain⟨d,ats,e⟩:=c.resolve_left b;rw[f]at e;cases e;rfl
 |succ l=>obtain⟨d,ats,e⟩:=c.resolve_left b;rw[f]at e;cases e;rfl
theorem AI.radopt {w:St} (u:Inv w G P) (i:Idx w G) (hd:s0.d=w.d) (hb:s0.bits=w.bits): ∀(l:Nat) {a:Int} {s:St} {S F:List Int} {T:Int→Nat} {m:Nat},AI G s0 s S T F→a0W G l a→(∀f∈F,∀o,a0C f G=some o→l+1<lev o)→(∀x,T x≤m)→m+9*l≤1000000→(∀x b,a0C x G=some (.part b)→T x=0)→
 ∃s' S',f0B l a s=(.ok (),s')∧AI G s0 s' S' (up T a) F∧ ∀x∈S,x∈S'
 |0,a,s,S,F,T,m,h,hk,hF,hT,K,hTp=>by
  by_cases p:a=0
  ·subst p;exact⟨s,S,by unfold Go.Sb.f0B Go.Sb.k0B;rw[if_pos rfl];rfl,h.up0,fun _ h=>h⟩
  ·have n:a ∉ F:=fun g=>by
    obtain⟨o,j⟩:=Option.isSome_iff_exists.1 (h.some_ a (.inr g));have:=hF a g o j;rw[g1U hk p j]at this;omega
   exact h.xadopt u i hd hb hk n (Nat.le_trans (hT a) (by omega)) hTp
 |l+1,a,s,S,F,T,m,h,hk,hF,hT,K,hTp=>by
  have X: ∀a o,a0C a G=some o→(d0O o).length≤8:=fun a o j=>o1F (u.typ a o j);by_cases p:a=0
  ·subst p;exact⟨s,S,by unfold Go.Sb.f0B;rw[if_pos rfl];rfl,h.up0,fun _ h=>h⟩
  obtain⟨A,sm,j⟩:=hk.resolve_left p;have Y:=u.range j;have Q:inR a=true:=by unfold inR;exact decide_eq_true (by omega)
  have r:=u.typ a _ j;have n:a ∉ F:=fun g=>by have:=hF a g _ j;simp only[lev]at this;omega
  unfold Go.Sb.f0B;rw[if_neg p];by_cases O:a∈S
  ·obtain⟨s1,D,C⟩:=h.again X p Q (Nat.le_trans (hT a) (by omega)) (.inl O);exact⟨s1,S,by rw[a0A D];rfl,C,fun _ h=>h⟩
  ·obtain⟨s1,D,C⟩:=h.first p Q (by rw[j];rfl) O n;have E:=C.load u hd j (.inr (List.mem_cons_self ..));have t: ∀x b,a0C x G=some (.part b)→x ∉ A:=fun x b i K=>by
    have:=g1U (r.2.2.2.1 x K) (u.ne0 i) i;simp only[lev]at this;omega
   have kids: ∀(v c:List Int) {s:St} {S:List Int},c++v=A→AI G s0 s S (ups (up T a) c) (a::F)→ ∃s' S',d0V (Go.Sb.f0B l) v s=(.ok (),s')∧AI G s0 s' S' (ups (up T a) (c++v)) (a::F)∧ ∀x∈S,x∈S':=fun v=>by
    induction v with
    |nil=>intro c s S _ h;exact⟨s,S,rfl,by rw[List.append_nil];exact h,fun _ h=>h⟩
    |cons k v ih=>
     intro c s S B h;have J:k∈A:=by rw[←B];simp
     have y: ∀x,c.count x≤8:=fun x=>by
      have W:c.count x≤c.length:=List.count_le_length;have N:=congrArg List.length B;have h3:=r.2.1;rw[List.length_append]at N;omega
     obtain⟨U,M,E,z,L⟩:=AI.radopt u i hd hb l (m:=m+9) h (r.2.2.2.1 k J) (fun f I o q=>by
      rcases List.mem_cons.1 I with rfl|I
      ·rw[j]at q;cases q;simp only[lev];omega
      ·have:=hF f I o q;omega) (fun x=>by
      have W:=hT x;have N:=y x;unfold ups up;split<;>omega) (by omega) (fun x b i=>by
      unfold ups up;rw[hTp x b i,if_neg (fun e=>by subst e;rw[j]at i;cases i),List.count_eq_zero.2 (fun g=>t x b i (by rw[←B];exact List.mem_append_left _ g))])
     have ek:up (ups (up T a) c) k=ups (up T a) (c++ [k]):=by
      funext x;unfold up ups;rw[List.count_append,List.count_cons,List.count_nil];by_cases e:k=x<;>simp[e]<;>omega
     rw[ek]at z;obtain⟨s3,V,H,R,Z⟩:=ih (c++ [k]) (by rw[←B];simp) z;exact⟨s3,V,by unfold d0V;rw[a0A E];exact H,by rw[List.append_assoc,List.singleton_append]at R;exact R,fun x i=>Z x (L x i)⟩
   obtain⟨U,M,H,z,L⟩:=kids A [] rfl (by rw[e2X];exact C);rw[List.nil_append]at z;refine⟨U,a::M,?_,AI.close (o:= .node l A sm) z n j (fun _ _ e=>by cases e),fun x i=>List.mem_cons_of_mem _ (L x i)⟩;rw[a0A D];simp only[if_true];rw[a0A E];exact H
end
end
section
def u1S (x:Ent):M Unit:=a0B (v0Q x.root) fun _ s=>(.ok (),{s with vols:=b0O x.id x s.vols})
def s0C (l:List Ent):M Unit:=d0V u1S l
theorem z0W (a:Int) (s:St):(e0Z a s).2.vols=s.vols:=by
 unfold e0Z
 repeat' split
 all_goals rfl
theorem o0E {α β:Type} {m:M α} {f:α→M β} (c: ∀s,(m s).2.vols=s.vols) (d: ∀a s,(f a s).2.vols=s.vols) (s:St):(a0B m f s).2.vols=s.vols:=by
 have b:=c s;unfold a0B;split<;>rename_i e<;>rw[e]at b
 ·rw[d];exact b
 ·exact b
 ·exact b
theorem e1U {α:Type} {f:α→M Unit} (h: ∀a s,(f a s).2.vols=s.vols): ∀(l:List α) (s:St),(d0V f l s).2.vols=s.vols
 | [],_=>rfl
 |a::l,s=>o0E (h a) (fun _=>e1U h l) s
theorem q1E (a:Int) (s:St):(g0X a s).2.vols=s.vols:=by unfold g0X;split<;>rfl
theorem j2X (a:Int) (l:Nat) (s:St):(load a l s).2.vols=s.vols:=by
 unfold load;split
 ·rfl
 ·exact o0E (q1E a) (fun _ _=>rfl) s
theorem y1V (a:Int) (s:St):(k0B a s).2.vols=s.vols:=by
 unfold k0B;split
 ·rfl
 ·refine o0E (z0W a) (fun b s=> ?_) s;split
  ·refine o0E (o0E (q1E a) fun _ _=>rfl) (fun x s=> ?_) s;refine o0E (e1U (fun i s=> ?_) _) (fun _ s=> ?_) s
   ·unfold h0P;split
    ·refine o0E (z0W i) (fun b s=> ?_) s;split<;>rfl
    ·rfl
   ·split<;>rfl
  ·rfl
theorem h1U: ∀(l:Nat) (a:Int) (s:St),(f0B l a s).2.vols=s.vols
 |0,a,s=>y1V a s
 |l+1,a,s=>by
  unfold f0B;split
  ·rfl
  ·refine o0E (z0W a) (fun b s=> ?_) s;split
   ·exact o0E (j2X a l) (fun n=>e1U (h1U l) _) s
   ·rfl
section
variable {G:Gh} {s0 s w:St} {S F P:List Int} {T:Int→Nat}
theorem AI.start (e:Inv w G P) (bits:Nat) (next:Int):AI G (f0X w.d 2 bits next) (f0X w.d 2 bits next) [] (fun _=>0) []:=by
 have m:=e.u.size;have i:=e.lo;have f:=e.hi;have c:(f0X w.d 2 bits next).g=List.replicate (w.d.l.length-2) 0:=rfl;refine⟨⟨rfl,rfl,rfl,rfl,rfl,rfl,rfl,rfl,rfl,rfl⟩,rfl,by rw[c,List.length_replicate];show 2+_≤_;omega,List.nodup_nil,List.nodup_nil,List.nodup_nil,fun a b=>(by cases b),fun a b=>(by rcases b with b|b<;>cases b),fun a _=>rfl,fun a _=>⟨fun h=>(h rfl).elim,fun h=>(by rcases h with h|h<;>cases h)⟩,fun a=> ?_,fun a b _ _=> ?_,?_,fun k a=>⟨fun h=>(by cases h),fun h=>(by cases h.1)⟩,rfl,rfl⟩
 ·constructor
  ·intro hb;have:=(n0O.1 hb).2.2;rw[c,List.getElem?_replicate]at this;split at this<;>simp at this
  ·intro h;rcases h with h|h<;>cases h
 ·obtain⟨o,j⟩:=Option.isSome_iff_exists.1 b;have n:=e.range j;refine n0O.2 ⟨by show((2:Nat):Int)≤a;omega,by rw[c,List.length_replicate];show(a- ((2:Nat):Int)).toNat<_;omega,?_⟩;rw[c,List.getElem?_replicate,if_pos (by show(a- ((2:Nat):Int)).toNat<_;omega)]
 ·rw[c,List.count_replicate];rfl
theorem AI.vols (h:AI G s0 s S T F) (v:List (Int×Ent)):AI G s0 {s with vols:=v} S T F:=
 ⟨h.same.of s.g s.refs s.index v,h.fr,h.hi,h.mrefs,h.mindex,h.nod,h.off,h.some_,h.refs,h.live,h.held,h.free,h.cnt,h.idx,h.zr,h.gl⟩
theorem AI.all (k:Inv w G P) (n:Idx w G) (hd:s0.d=w.d) (hb:s0.bits=w.bits): ∀(L done:List Ent) {s:St} {S:List Int} {T:Int→Nat} {m:Nat},AI G s0 s S T []→(∀x∈L,a0W G 3 x.root)→(∀x,T x≤m)→m+L.length+27≤1000000→(∀x b,a0C x G=some (.part b)→T x=0)→
 s.vols=done.map (fun x=>(x.id,x))→((done++L).map (·.id)).Nodup→
 ∃s' S',s0C L s=(.ok (),s')∧AI G s0 s' S' (ups T (L.map (·.root))) []∧s'.vols=(done++L).map (fun x=>(x.id,x))
 | [],done,s,S,T,m,h,_,_,_,_,hv,_=>⟨s,S,rfl,h.congr fun x _=>by unfold ups;simp,by rw[List.append_nil];exact hv⟩
 |x::L,done,s,S,T,m,h,hk,hT,c,hTp,hv,hn=>by
  obtain⟨s1,A,l,u,_⟩:=AI.radopt k n hd hb 3 (m:=m) h (hk x (List.mem_cons_self ..)) (fun f t=>by cases t) hT (by simp at c;omega) hTp;have g:s1.vols=s.vols:=by
   have:=h1U 3 x.root s;rw[l]at this;exact this
  have j:a0C x.id s1.vols=none:=by
   rw[g,hv];refine z0A fun c=> ?_;rw[List.map_map]at c;obtain⟨y,a,e⟩:=List.mem_map.1 c;rw[List.map_append,List.nodup_append]at hn;exact hn.2.2 y.id (List.mem_map.2 ⟨y,a,rfl⟩) x.id (by simp) e
  have q:u1S x s=(.ok (),{s1 with vols:=b0O x.id x s1.vols}):=by unfold u1S v0Q;rw[a0A l]
  obtain⟨z,p,r,v,o⟩:=AI.all k n hd hb L (done++ [x]) (m:=m+1) (u.vols (b0O x.id x s1.vols)) (fun y a=>hk y (List.mem_cons_of_mem _ a)) (fun y=>by have:=hT y;unfold up;split<;>omega) (by simp at c;omega)
   (fun y b a=>by unfold up;rw[hTp y b a,if_neg (fun e=>by
    have i:x.root≠0:=fun i=>k.ne0 a (e▸i);have:=g1U (hk x (List.mem_cons_self ..)) i (e▸a);simp only[lev]at this;omega)]) (by show b0O x.id x s1.vols=_;rw[j1H j,g,hv];simp) (by rw[List.append_assoc];exact hn)
  refine⟨z,p,by unfold s0C d0V;rw[a0A q];exact r,v.congr fun y _=> ?_,by rw[List.append_assoc]at o;exact o⟩;unfold ups up;rw[List.map_cons,List.count_cons];by_cases e:x.root=y<;>simp[e]<;>omega
end
end
end Go.Sb
namespace Go.Proofs.Q
section
open Go
end
end Go.Proofs.Q
namespace Go.Sl
section
section
variable {c:Cx} {ops:Array Oper} {Q:Exit→Act→World→Prop} {K:List a0E} {steps:l0A} {env:List (Nat×Value)} {L:List a0E}
theorem h0B (f: ∀w,Sat w L→Sat w K) (h:OM c ops Q K steps env L):KW c (Exit.then (KM c ops Q K steps) Q) .normal env L:=by
 intro a w b;have d:Sat w K:=f w b.sat;exact⟨⟨d,b.like⟩,fun l e i g=>h l a w e i g b d⟩
theorem a1U {id:Nat} {l:List Oper} (steps:l0A) (K:List a0E) (m:c.P.follows .mixedOrders=true)
 (b:(Region.noSelect l.toArray&&(Nat.beq steps.len l.length&&l0P l.toArray steps (Array.replicate l.length false)))=true) (j:b0T Q) (i: ∀w,Sat w L→Sat w K) (h:OM c l.toArray Q K steps env L):CW c (.region id l.toArray true) Q env L:=by
 intro a w k;simp only[Bool.and_eq_true]at b;have d:=k.drew;have n:Sat w.drew K:=i _ d.sat;have g:=h _ a w.drew b.2.2 b.1 j d n;refine wp_region_held (S:=q0M c K) m ?_;have e:steps.len=l.toArray.size:=by simpa using Nat.eq_of_beq_eq_true b.2.1
 rw[←e];have f:Array.replicate steps.len false=Array.replicate l.length false:=by rw[Nat.eq_of_beq_eq_true b.2.1]
 rw[f];exact g
end
end
end Go.Sl
namespace Go.Proofs.Q
section
open Go
end
section
open Go
end
section
open Go
end
section
open Go
end
section
open Go
end
section
open Go
end
section
open Go
end
end Go.Proofs.Q
namespace Go.Sb
section
def xat (xs:List Int) (i:Nat):Int:=xs.getD i 0
def swp (xs:List Int) (i j:Nat):List Int:=(xs.set i (xat xs j)).set j (xat xs i)
theorem s0D {xs:List Int} {i:Nat} (h:i<xs.length):xat xs i=xs[i]:=by simp[xat,h]
theorem u2J {xs:List Int} {i:Nat} (h:i<xs.length):xs[i]? =some (xat xs i):=by simp[xat,h]
theorem g1V {xs:List Int} {i j k:Nat} (hi:i<xs.length) (d:j<xs.length):xat (swp xs i j) k=if k=j then xat xs i else if k=i then xat xs j else xat xs k:=by
 unfold swp;by_cases c:k<xs.length
 ·rw[s0D (by simpa using c),List.getElem_set,List.getElem_set];by_cases a:k=j
  ·subst a;simp
  ·rw[if_neg (Ne.symm a),if_neg a];by_cases b:k=i
   ·subst b;simp
   ·rw[if_neg (Ne.symm b),if_neg b,s0D c]
 ·rw[if_neg (by omega),if_neg (by omega)];simp[xat,c]
theorem o2Z {xs:List Int} {i j:Nat} (hi:i<xs.length) (b:j<xs.length):(swp xs i j).Perm xs:=by
 have h:=Array.swap_perm (xs:=xs.toArray) (i:=i) (j:=j) (by simpa using hi) (by simpa using b);have a:=Array.perm_iff_toList_perm.1 h;simp only[Array.toList_swap]at a;have e:swp xs i j=(xs.set i xs[j]).set j xs[i]:=by unfold swp;rw[s0D hi,s0D b]
 rw[e];simpa using a
structure SP (a b:Nat) (xs ys:List Int):Prop where
 perm:ys.Perm xs
 out: ∀i,i<a∨b≤i→xat ys i=xat xs i
theorem SP.refl (a b:Nat) (xs:List Int):SP a b xs xs:=⟨List.Perm.refl _,fun _ _=>rfl⟩
theorem SP.len {a b:Nat} {xs ys:List Int} (h:SP a b xs ys):ys.length=xs.length:=h.perm.length_eq
theorem SP.trans {a b:Nat} {xs ys zs:List Int} (h:SP a b xs ys) (k:SP a b ys zs):SP a b xs zs:=⟨k.perm.trans h.perm,fun i hi=>(k.out i hi).trans (h.out i hi)⟩
theorem SP.mono {a b c d:Nat} {xs ys:List Int} (h:SP c d xs ys) (e:a≤c) (hb:d≤b):SP a b xs ys:=⟨h.perm,fun i hi=>h.out i (by omega)⟩
theorem SP.swap {a b:Nat} {xs:List Int} {i j:Nat} (hi:a≤i∧i<b) (c:a≤j∧j<b) (hb:b≤xs.length):SP a b xs (swp xs i j):=
 ⟨o2Z (by omega) (by omega),fun k d=>by rw[g1V (by omega) (by omega),if_neg (by omega),if_neg (by omega)]⟩
theorem SP.nodup {a b:Nat} {xs ys:List Int} (h:SP a b xs ys) (c:xs.Nodup):ys.Nodup:=h.perm.nodup_iff.2 c
theorem c1N {xs:List Int} (c:xs.Nodup) {i j:Nat} (hi:i<xs.length) (a:j<xs.length) (b:i≠j):xat xs i≠xat xs j:=by
 rw[s0D hi,s0D a];intro e;rcases Nat.lt_or_gt_of_ne b with h|h
 ·exact List.pairwise_iff_getElem.1 c i j hi a h e
 ·exact List.pairwise_iff_getElem.1 c j i a hi h e.symm
theorem SP.from {a b:Nat} {xs ys:List Int} (h:SP a b xs ys) (k:xs.Nodup) (hb:b≤xs.length) {i:Nat} (hi:a≤i∧i<b): ∃j,a≤j∧j<b∧xat ys i=xat xs j:=by
 have l:=h.len;have g:xat ys i∈xs:=h.perm.mem_iff.1 (by rw[s0D (show i<ys.length by omega)];exact List.getElem_mem _);obtain⟨j,f,e⟩:=List.mem_iff_getElem.1 g;rw[←s0D f]at e;by_cases c:a≤j∧j<b
 ·exact⟨j,c.1,c.2,e.symm⟩
 ·have d:=h.out j (by omega);rw[e]at d;exact((c1N (h.nodup k) (by omega) (by omega) (by omega) d):False).elim
theorem SP.all {a b:Nat} {xs ys:List Int} (h:SP a b xs ys) (f:xs.Nodup) (hb:b≤xs.length) {p:Int→Prop} (g: ∀i,a≤i→i<b→p (xat xs i)): ∀i,a≤i→i<b→p (xat ys i):=fun i c d=>by
 obtain⟨j,k,l,e⟩:=h.from f hb ⟨c,d⟩;rw[e];exact g j k l
def Srt (a b:Nat) (xs:List Int):Prop:= ∀i j,a≤i→i<j→j<b→xat xs i<xat xs j
theorem Srt.list {xs:List Int} (h:Srt 0 xs.length xs):xs.Pairwise (· < ·):=List.pairwise_iff_getElem.2 fun i j hi b a=>by
 have:=h i j (Nat.zero_le _) a b
 rwa [s0D hi,s0D b]at this
structure Ins (a i j:Nat) (xs:List Int):Prop where
 le:a≤j∧j≤i
 rest: ∀p q,a≤p→p<q→q≤i→p≠j→q≠j→xat xs p<xat xs q
 up: ∀q,j<q→q≤i→xat xs j<xat xs q
theorem Ins.begin {a i:Nat} {xs:List Int} (h:Srt a i xs) (hi:a≤i):Ins a i i xs:=⟨⟨hi,Nat.le_refl _⟩,fun p q b c d e f=>h p q b c (by omega),fun q b c=>by omega⟩
theorem Ins.step {a i j:Nat} {xs:List Int} (h:Ins a i j xs) (s:a<j) (o:i<xs.length) (f:xat xs j<xat xs (j-1)):Ins a i (j-1) (swp xs j (j-1)):=by
 have r:=h.le;have e: ∀k,xat (swp xs j (j-1)) k=if k=j-1 then xat xs j else if k=j then xat xs (j-1)else xat xs k:=fun k=>g1V (by omega) (by omega)
 refine⟨by omega,fun p q c d l m n=> ?_,fun q c d=> ?_⟩
 ·rw[e,e,if_neg m,if_neg n];by_cases g:p=j
  ·subst g;rw[if_pos rfl,if_neg (by omega)];exact h.rest _ _ (by omega) (by omega) l (by omega) (by omega)
  ·rw[if_neg g];by_cases b:q=j
   ·subst b;rw[if_pos rfl];exact h.rest _ _ c (by omega) (by omega) (by omega) (by omega)
   ·rw[if_neg b];exact h.rest _ _ c d l g b
 ·rw[e,e,if_pos rfl,if_neg (by omega)];by_cases b:q=j
  ·rw[if_pos b];exact f
  ·rw[if_neg b];exact h.up q (by omega) d
theorem Ins.done {a i j:Nat} {xs:List Int} (h:Ins a i j xs) (hd:a<j→xat xs (j-1)<xat xs j):Srt a (i+1) xs:=fun p q c d g=>by
 have f:=h.le;by_cases e:q=j
 ·subst e;by_cases b:p=q-1
  ·rw[b];exact hd (by omega)
  ·have:=h.rest p (q-1) c (by omega) (by omega) (by omega) (by omega);have:=hd (by omega);omega
 ·by_cases b:p=j
  ·subst b;exact h.up q d (by omega)
  ·exact h.rest p q c d (by omega) b e
structure Par (a b i j:Nat) (xs:List Int):Prop where
 le:a<i∧i≤j+1∧j<b
 low: ∀k,a<k→k<i→xat xs k<xat xs a
 high: ∀k,j<k→k<b→xat xs a<xat xs k
theorem Par.inc {a b i j:Nat} {xs:List Int} (h:Par a b i j xs) (d:i≤j) (c:xat xs i<xat xs a):Par a b (i+1) j xs:=by
 have f:=h.le;refine⟨by omega,fun k k1 g=> ?_,h.high⟩;by_cases e:k=i
 ·rw[e];exact c
 ·exact h.low k k1 (by omega)
theorem Par.dec {a b i j:Nat} {xs:List Int} (h:Par a b i j xs) (d:i≤j) (c:xat xs a<xat xs j):Par a b i (j-1) xs:=by
 have g:=h.le;refine⟨by omega,h.low,fun k k1 f=> ?_⟩;by_cases e:k=j
 ·rw[e];exact c
 ·exact h.high k (by omega) f
theorem Par.new {a b:Nat} {xs:List Int} (h:a<b):Par a b (a+1) (b-1) xs:=⟨by omega,fun k k1 c=>by omega,fun k k1 c=>by omega⟩
def Mid (a b m:Nat) (xs:List Int):Prop:=a≤m∧m<b∧(∀k,a≤k→k<m→xat xs k<xat xs m)∧ ∀k,m<k→k<b→xat xs m<xat xs k
theorem Par.swap {a b i j:Nat} {xs:List Int} (h:Par a b i j xs) (hb:b≤xs.length) (m:i<j) (g:xat xs a<xat xs i) (l:xat xs j<xat xs a):Par a b (i+1) (j-1) (swp xs i j):=by
 have n:=h.le;have e: ∀k,xat (swp xs i j) k=if k=j then xat xs i else if k=i then xat xs j else xat xs k:=fun k=>g1V (by omega) (by omega)
 have d:xat (swp xs i j) a=xat xs a:=by rw[e,if_neg (by omega),if_neg (by omega)]
 refine⟨by omega,fun k k1 f=> ?_,fun k k1 f=> ?_⟩
 ·rw[d,e,if_neg (by omega)];by_cases c:k=i
  ·rw[if_pos c];exact l
  ·rw[if_neg c];exact h.low k k1 (by omega)
 ·rw[d,e];by_cases c:k=j
  ·rw[if_pos c];exact g
  ·rw[if_neg c,if_neg (by omega)];exact h.high k (by omega) f
theorem Par.mid {a b i j:Nat} {xs:List Int} (h:Par a b i j xs) (hb:b≤xs.length) (l:j<i):Mid a b j (swp xs j a):=by
 have m:=h.le;have e: ∀k,xat (swp xs j a) k=if k=a then xat xs j else if k=j then xat xs a else xat xs k:=fun k=>g1V (by omega) (by omega)
 have d:xat (swp xs j a) j=xat xs a:=by
  rw[e];by_cases c:j=a
  ·subst c;simp
  ·rw[if_neg c,if_pos rfl]
 refine⟨by omega,by omega,fun k k1 g=> ?_,fun k k1 g=> ?_⟩
 ·rw[d,e];by_cases f:k=a
  ·rw[if_pos f];exact h.low j (by omega) (by omega)
  ·rw[if_neg f,if_neg (by omega)];exact h.low k (by omega) (by omega)
 ·rw[d,e,if_neg (by omega),if_neg (by omega)];exact h.high k k1 g
theorem Mid.sorted {a b m:Nat} {xs ys zs:List Int} (h:Mid a b m xs) (s:xs.Nodup) (hb:b≤xs.length) (f:SP a m xs ys) (s1:Srt a m ys) (n:SP (m+1) b ys zs) (v:Srt (m+1) b zs):Srt a b zs:=by
 obtain⟨x,y,t,u⟩:=h;have w:=f.len;have lo: ∀k,a≤k→k<m→xat zs k<xat xs m∧xat zs k=xat ys k:=fun k k1 q=>by
  have e:=n.out k (by omega);exact⟨by rw[e];exact f.all s (by omega) (p:=(· <xat xs m)) t k k1 q,e⟩
 have r:xat zs m=xat xs m:=(n.out m (by omega)).trans (f.out m (by omega));have hi: ∀k,m<k→k<b→xat xs m<xat zs k:=fun k k1 q=>n.all (f.nodup s) (by omega) (p:=(xat xs m< ·)) (fun i g l=>by rw[f.out i (by omega)];exact u i (by omega) l) k (by omega) q;intro i j g l o;rcases Nat.lt_trichotomy i m with c|c|c
 ·rcases Nat.lt_trichotomy j m with d|d|d
  ·rw[(lo i g c).2,(lo j (by omega) d).2];exact s1 i j g l d
  ·rw[d,r];exact(lo i g c).1
  ·have:=(lo i g c).1;have:=hi j d o;omega
 ·rw[c,r];exact hi j (by omega) o
 ·exact v i j (by omega) l o
theorem Srt.push {a i:Nat} {xs:List Int} (h:Srt a i xs) (b:a<i→xat xs (i-1)<xat xs i):Srt a (i+1) xs:=fun p q c d j=>by
 by_cases g:q=i
 ·subst g;have e:=b (by omega);by_cases f:p=q-1
  ·rw[f];exact e
  ·have:=h p (q-1) c (by omega) (by omega);omega
 ·exact h p q c d (by omega)
structure Pq (a b:Nat) (xs:List Int) (c d:Nat) (ys:List Int):Prop where
 le:a≤c∧c≤d∧d≤b
 sp:SP a b xs ys
 done: ∀zs,SP c d ys zs→Srt c d zs→Srt a b zs
 sep: ∀i,0<c→c≤i→i<d→xat ys (c-1)<xat ys i
theorem Pq.new {a b:Nat} {xs:List Int} (h:a≤b) (c: ∀i,0<a→a≤i→i<b→xat xs (a-1)<xat xs i):Pq a b xs a b xs:=⟨⟨Nat.le_refl _,h,Nat.le_refl _⟩,SP.refl _ _ _,fun _ _ h=>h,c⟩
section
variable {a b c d m:Nat} {xs ys zs ws:List Int}
theorem Pq.mix (h:Pq a b xs c d ys) (m:xs.Nodup) (hb:b≤xs.length) (e:SP c d ys zs):Pq a b xs c d zs:=by
 have j:=h.le;have n:=h.sp.len;refine⟨j,h.sp.trans (e.mono j.1 j.2.2),fun ws f g=>h.done ws (e.trans f) g,fun i l f g=> ?_⟩;rw[e.out (c-1) (by omega)];exact e.all (h.sp.nodup m) (by omega) (p:=fun v=>xat ys (c-1)<v) (fun k k1 o=>h.sep k l k1 o) i f g
theorem Pq.left (h:Pq a b xs c d zs) (n:xs.Nodup) (hb:b≤xs.length) (j:Mid c d m zs) (f:SP c m zs ws) (o:Srt c m ws):Pq a b xs (m+1) d ws:=by
 have g:=h.le;have p:=h.sp.len;obtain⟨u,v,w,q⟩:=id j;have e:=f.mono (a:=c) (b:=d) (Nat.le_refl _) (by omega);refine⟨by omega,h.sp.trans (e.mono g.1 g.2.2),fun vs k r=> ?_,fun i s t l=> ?_⟩
 ·exact h.done vs (e.trans (k.mono (by omega) (Nat.le_refl _))) (j.sorted (h.sp.nodup n) (by omega) f o k r)
 ·rw[Nat.add_sub_cancel,f.out m (by omega),f.out i (by omega)];exact q i (by omega) l
theorem Mid.sorted' (h:Mid a b m xs) (s:xs.Nodup) (hb:b≤xs.length) (l:SP (m+1) b xs ys) (s1:Srt (m+1) b ys) (o:SP a m ys zs) (v:Srt a m zs):Srt a b zs:=by
 obtain⟨x,y,t,u⟩:=h;have w:=l.len;have hi: ∀k,m<k→k<b→xat xs m<xat zs k∧xat zs k=xat ys k:=fun k k1 q=>by
  have e:=o.out k (by omega);exact⟨by rw[e];exact l.all s hb (p:=(xat xs m< ·)) (fun i f g=>u i (by omega) g) k (by omega) q,e⟩
 have r:xat zs m=xat xs m:=(o.out m (by omega)).trans (l.out m (by omega));have lo: ∀k,a≤k→k<m→xat zs k<xat xs m:=fun k k1 q=>o.all (l.nodup s) (by omega) (p:=(· <xat xs m)) (fun i f g=>by rw[l.out i (by omega)];exact t i f g) k k1 q;intro i j f g n;rcases Nat.lt_trichotomy i m with c|c|c
 ·rcases Nat.lt_trichotomy j m with d|d|d
  ·exact v i j f g d
  ·rw[d,r];exact lo i f c
  ·have:=lo i f c;have:=(hi j d n).1;omega
 ·rw[c,r];exact(hi j (by omega) n).1
 ·rw[(hi i c (by omega)).2,(hi j (by omega) n).2];exact s1 i j (by omega) g n
theorem Pq.right (h:Pq a b xs c d zs) (o:xs.Nodup) (hb:b≤xs.length) (j:Mid c d m zs) (f:SP (m+1) d zs ws) (p:Srt (m+1) d ws):Pq a b xs c m ws:=by
 have g:=h.le;have q:=h.sp.len;obtain⟨t,u,v,w⟩:=id j;have e:=f.mono (a:=c) (b:=d) (by omega) (Nat.le_refl _);refine⟨by omega,h.sp.trans (e.mono g.1 g.2.2),fun vs k r=> ?_,fun i l n s=> ?_⟩
 ·exact h.done vs (e.trans (k.mono (Nat.le_refl _) (by omega))) (j.sorted' (h.sp.nodup o) (by omega) f p k r)
 ·rw[f.out (c-1) (by omega),f.out i (by omega)];exact h.sep i l n (by omega)
theorem Pq.sepL (h:Pq a b xs c d zs) (g:Mid c d m zs): ∀i,0<c→c≤i→i<m→xat zs (c-1)<xat zs i:=fun i e f j=>h.sep i e f (by have:=g.2.1;omega)
theorem Mid.sepR (b:Mid c d m zs): ∀i,0<m+1→m+1≤i→i<d→xat zs (m+1-1)<xat zs i:=fun i _ e a=>b.2.2.2 i (by omega) a
end
end
end Go.Sb

/- Part of the proof; no statement of its own. -/
import Derived.Test.YtpinhnikemamjaaGreatDoorD02
import Derived.Deep.AppendSrc
set_option linter.all false
set_option maxRecDepth 4000
set_option maxHeartbeats 4000000
namespace Go.Sl
section
structure p0G where
 j:Nat
 d:Nat
 v:Nat→Value
 o:Obj
 e0:List (Nat×Value)
def ap:List p0G→List Bool→Array Bool→Array Bool
 |p::Js,true::S,l=>ap Js S (l.setIfInBounds p.j true)
 |_::Js,false::S,l=>ap Js S l
 |_,_,l=>l
def PX:List p0G→List Bool→List (Nat×Value)→List a0E→Prop
 | [],[],E,X=>E= []∧X= []
 |p::Js,true::S,E,X=> ∃b E' X',E=(p.d,p.v b)::E'∧X=pts b p.o::X'∧PX Js S E' X'
 |_::Js,false::S,E,X=>PX Js S E X
 |_,_,_,_=>False
def cnt:List Bool→Nat
 | []=>0
 |true::S=>cnt S
 |false::S=>cnt S+1
inductive Upd:List p0G→List Bool→List Bool→p0G→Prop
 |here {p Js S} :Upd (p::Js) (false::S) (true::S) p
 |there {p q Js s S S'} (h:Upd Js S S' p):Upd (q::Js) (s::S) (s::S') p
theorem Upd.mem {Js S S' p} (h:Upd Js S S' p):p∈Js:=by
 induction h with
 |here=>simp
 |there _ ih=>simp[ih]
theorem Upd.cnt {Js S S' p} (h:Upd Js S S' p):Sl.cnt S=Sl.cnt S'+1:=by
 induction h with
 |here=>simp[Sl.cnt]
 |there h ih=>rename_i s _ _;cases s<;>simp[Sl.cnt,ih]
theorem k1X (Js:List p0G): ∀(S:List Bool) (l:Array Bool) (i:Nat),ap Js S (l.setIfInBounds i true)=(ap Js S l).setIfInBounds i true:=by
 induction Js with
 |nil=>intro S l i;simp[ap]
 |cons p Js ih=>
  intro S l i;cases S with
  |nil=>simp[ap]
  |cons s S=>
   cases s with
   |false=>simp only[ap];exact ih S l i
   |true=>
    simp only[ap];rw[←ih S _ i];congr 1;by_cases h:i=p.j
    ·subst h;rfl
    ·rw[Array.setIfInBounds_comm _ _ h]
theorem Upd.ap {Js S S' p} (h:Upd Js S S' p): ∀(l:Array Bool),ap Js S' l=(ap Js S l).setIfInBounds p.j true:=by
 induction h with
 |here=>intro l;simp only[Sl.ap];exact k1X _ _ _ _
 |there h ih=>intro l;rename_i s _ _;cases s<;>simp only[Sl.ap]<;>exact ih _
def t0E (f:Array Bool→List Nat→Bool):List Nat→Array Bool→List Nat→Bool
 | [],l,un=>f l un
 |j::js,l,un=>t0E f js (l.setIfInBounds j true) un&&t0E f js l (j::un)
theorem s0B {f:Array Bool→List Nat→Bool} : ∀(Js:List p0G) (S:List Bool) (l:Array Bool) (b:List Nat),S.length=Js.length→t0E f (Js.map (·.j)) l b=true→
 ∃a,f (ap Js S l) a=true∧ ∀r∈a,r∈b∨ ∃p d,Upd Js S d p∧p.j=r
 | [],[],l,b,_,h=>⟨b,by simpa [t0E,ap] using h,fun r c=> .inl c⟩
 |p::Js,true::S,l,b,hl,h=>by
  simp only[List.map_cons,t0E,Bool.and_eq_true]at h;obtain⟨a,g,i⟩:=s0B Js S _ b (by simpa using hl) h.1;exact⟨a,g,fun r c=>(i r c).imp id fun⟨q,d,hu,e⟩=>⟨q,_,hu.there,e⟩⟩
 |p::Js,false::S,l,b,hl,h=>by
  simp only[List.map_cons,t0E,Bool.and_eq_true]at h;obtain⟨a,g,i⟩:=s0B Js S _ (p.j::b) (by simpa using hl) h.2;refine⟨a,g,fun r c=> ?_⟩;rcases i r c with k| ⟨q,d,hu,e⟩
  ·rcases List.mem_cons.1 k with rfl|k
   ·exact .inr ⟨p,_,Upd.here,rfl⟩
   ·exact .inl k
  ·exact .inr ⟨q,_,hu.there,e⟩
inductive g0N where
 |done
 |soft (i:Nat) (p:g0N)
 |hard (i:Nat) (p:g0N)
 |float (j:Nat) (p:g0N)
 |res (p:g0N)
def g0N.len:g0N→Nat
 | .done=>0
 | .soft _ p| .hard _ p| .float _ p=>p.len+1
 | .res p=>p.len
def k0V (ops:Array Oper):g0N→List Nat→Array Bool→Bool
 | .done,js,l=>js.isEmpty&&(Region.ready .any ops l).isEmpty
 | .soft i p,js,l=>t0E (fun l _=>Region.free .any ops l i&&(Region.ready .any ops l).contains i) js l []&&k0V ops p js (l.setIfInBounds i true)
 | .hard i p,js,l=>t0E (fun l a=>(Region.ready .any ops l).contains i&&(Region.ready .any ops l).all fun r=>Nat.beq r i || a.contains r) js l []&&k0V ops p js (l.setIfInBounds i true)
 | .float j p,js,l=>k0V ops p (j::js) l
 | .res p,js,l=>match js with
  |j::js=>t0E (fun l a=>(Region.ready .any ops l).contains j&&(Region.ready .any ops l).all fun r=>Nat.beq r j || a.contains r) js l []&&k0V ops p js (l.setIfInBounds j true)
  | []=>false
def AL (c:Cx) (ops:Array Oper) (p:p0G):Prop:=
 ∃oj,ops[p.j]? =some oj∧oj.dst=some p.d∧Nat.blt p.d c.n=true∧ ∀a w,b0J c p.e0 [] a w→Region.wanted oj (yielded ops a.tmps)=true∧(execOp a.eval oj).run c.P w= .ok (.value (p.v w.heap.size)) (w.alloc p.o)
def Frs (env:List (Nat×Value)):List p0G→Bool
 | []=>true
 |p::Js=>(c0E env p.d).isNone&&((Js.all fun q=> !Nat.beq q.d p.d&&(c0E q.e0 p.d).isNone&&(c0E p.e0 q.d).isNone)&&((c0E p.e0 p.d).isNone&&Frs env Js))
def Opd (env:List (Nat×Value)) (Js:List p0G):Prop:= ∀p∈Js,Sub env p.e0
def Ok (c:Cx) (ops:Array Oper) (env:List (Nat×Value)) (Js:List p0G):Prop:=Frs env Js=true∧Opd env Js∧ ∀p∈Js,AL c ops p
def OMf (c:Cx) (ops:Array Oper) (Q:Exit→Act→World→Prop) (K:List a0E) (Js:List p0G) (plan:g0N) (env:List (Nat×Value)) (L:List a0E):Prop:=
 ∀(l0:Array Bool) (S:List Bool) (E:List (Nat×Value)) (X:List a0E) (a:Act) (w:World),k0V ops plan (Js.map (·.j)) l0=true→Region.noSelect ops=true→b0T Q→Ok c ops env Js→
  PX Js S E X→b0J c (env++E) (L++X) a w→Sat w K→wpAnyH c.P .any ops Q (q0M c K) (plan.len+cnt S) (ap Js S l0) a w
theorem p0W {env E:List (Nat×Value)} {t:Nat} :c0E (env++E) t=(c0E env t).or (c0E E t):=by
 induction env with
 |nil=>simp[c0E]
 |cons x env ih=>
  obtain⟨k,v⟩:=x;simp only[List.cons_append,c0E];cases Nat.beq k t<;>simp[ih]
theorem PX.length: ∀ {Js S E X},PX Js S E X→S.length=Js.length
 | [],[],_,_,_=>rfl
 |_::Js,true::S,_,_,⟨_,E,X,_,_,h⟩=>by have:= @PX.length Js S E X h;simp[this]
 |_::Js,false::S,E,X,h=>by have:= @PX.length Js S E X h;simp[this]
theorem PX.keys: ∀ {Js S E X t u},PX Js S E X→c0E E t=some u→ ∃p∈Js,p.d=t
 | [],[],E,X,t,u,h,hl=>by obtain⟨rfl,_⟩:=h;simp[c0E]at hl
 |p::Js,true::S,E,X,t,u,⟨b,E',X',e1,_,h⟩,hl=>by
  subst e1;simp only[c0E]at hl;cases hb:Nat.beq p.d t with
  |true=>exact⟨p,by simp,Nat.eq_of_beq_eq_true hb⟩
  |false=>rw[hb]at hl;obtain⟨q,a,e⟩:=PX.keys h hl;exact⟨q,by simp[a],e⟩
 |p::Js,false::S,E,X,t,u,h,hl=>by
  obtain⟨q,a,e⟩:=PX.keys (show PX Js S E X from h) hl;exact⟨q,by simp[a],e⟩
theorem Frs.env: ∀ {env Js p},Frs env Js=true→p∈Js→c0E env p.d=none
 |env,q::Js,p,h,a=>by
  simp only[Frs,Bool.and_eq_true,Option.isNone_iff_eq_none]at h;rcases List.mem_cons.1 a with rfl|a
  ·exact h.1
  ·exact Frs.env h.2.2.2 a
theorem PX.upd {Js S i p} (hu:Upd Js S i p): ∀ {E X env} (b:Nat),Frs env Js=true→PX Js S E X→ ∃f g,PX Js i f g∧(∀t u,c0E f t=some u→(t=p.d∧u=p.v b)∨(t≠p.d∧c0E E t=some u))∧g.Perm (pts b p.o::X):=by
 induction hu with
 |here=>
  rename_i p Js S;intro E X env b c h;simp only[Frs,Bool.and_eq_true,List.all_eq_true]at c;refine⟨(p.d,p.v b)::E,pts b p.o::X,⟨b,E,X,rfl,rfl,h⟩,fun t u a=> ?_,List.Perm.refl _⟩;simp only[c0E]at a;cases hb:Nat.beq p.d t with
  |true=>rw[hb]at a;exact .inl ⟨(Nat.eq_of_beq_eq_true hb).symm,(Option.some.inj a).symm⟩
  |false=>rw[hb]at a;exact .inr ⟨fun e=>by subst e;simp at hb,a⟩
 |there hu ih=>
  rename_i p q Js s S i;intro E X env b c h;have w:=c;simp only[Frs,Bool.and_eq_true]at c;cases s with
  |false=>exact ih b c.2.2.2 (show PX Js S E X from h)
  |true=>
   obtain⟨j,y,z,rfl,rfl,l⟩:=h;obtain⟨f,g,m,n,r⟩:=ih b c.2.2.2 l;have k:q.d≠p.d:=by
    have x:p∈Js:=hu.mem;have:=List.all_eq_true.1 c.2.1 p x;simp only[Bool.and_eq_true,Bool.not_eq_true']at this;intro e;rw[e]at this;simp at this
   refine⟨(q.d,q.v j)::f,pts j q.o::g,⟨j,f,g,rfl,rfl,m⟩,fun t u a=> ?_,(List.Perm.cons _ r).trans (List.Perm.swap _ _ _)⟩;simp only[c0E]at a ⊢;cases hb:Nat.beq q.d t with
   |true=>
    rw[hb]at a;have:q.d=t:=Nat.eq_of_beq_eq_true hb;exact .inr ⟨by rw[←this];exact k,a⟩
   |false=>rw[hb]at a;exact n t u a
section
variable {c:Cx} {ops:Array Oper} {Q:Exit→Act→World→Prop} {K:List a0E} {plan:g0N} {env:List (Nat×Value)} {L:List a0E} {Js:List p0G}
 {d:Tmp} {op:Op} {ty:TypeId} {pos:String} {af:Array Edge} {i:Nat}
theorem e1B {S D:List Bool} {p:p0G} {E:List (Nat×Value)} {X:List a0E} {a:Act} {w:World} {N:Act→World→Prop} (A:Ok c ops env Js) (hu:Upd Js S D p) (B:PX Js S E X) (b:b0J c (env++E) (L++X) a w) (O:Sat w K)
 (h: ∀r s a' w',PX Js D r s→b0J c (env++r) (L++s) a' w'→Sat w' K→N a' w'):wpOp c.P ops Q p.j N a w:=by
 obtain⟨F,R,x⟩:=A;have i:=hu.mem;obtain⟨W,hi,hd,y,q⟩:=x p i;have g: ∀t v,c0E env t=some v→c0E (env++E) t=some v:=fun t v f=>by rw[p0W,f];rfl
 have G:b0J c p.e0 [] a w:=⟨b.size,fun t v f=>b.slots t v (g t v ((R p i).le t v f)),b.defers,Sat.nil w,b.like⟩;obtain⟨V,T⟩:=q a w G;obtain⟨r,s,H,I,J⟩:=PX.upd hu (env:=env) w.heap.size F B;unfold wpOp;simp only[hi,V,if_true];left;unfold Oper.wp;rw[T];simp only[Oper.upon,hd];have l:p.d<c.n:=Nat.blt_eq▸y;refine h r s _ _ H ⟨by simp[Act.put,b.size],?_,by rw[k1W];exact b.defers,?_,b.like.alloc _⟩ ?_
 ·intro t u f;rw[p0W]at f;have z:c0E env p.d=none:=Frs.env F i;cases k:c0E env t with
  |some u'=>
   rw[k]at f;have C:t≠p.d:=fun e=>by rw[e,z]at k;cases k
   have:u'=u:=by simpa using f
   subst this;simp only[Act.put,Array.getElem?_setIfInBounds];rw[if_neg (fun e=>C e.symm)];exact b.slots t u' (g t u' k)
  |none=>
   rw[k]at f;simp only[Option.none_or]at f;rcases I t u f with ⟨rfl,rfl⟩| ⟨m,M⟩
   ·simp[Act.put,b.size,l]
   ·simp only[Act.put,Array.getElem?_setIfInBounds];rw[if_neg (fun e=>m e.symm)];exact b.slots t u (by rw[p0W,k,M];rfl)
 ·have U:=b.sat.alloc p.o;exact U.perm (((List.Perm.append_left L J).trans List.perm_middle).symm)
 ·exact(O.alloc p.o).tail
theorem t2E (h:KW c Q .normal env L):OMf c ops Q K [] .done env L:=by
 intro f S E X a w d _ _ _ b e _;simp only[k0V,Bool.and_eq_true,List.isEmpty_iff]at d;cases S with
 |cons s S=>cases s<;>exact b.elim
 |nil=>
  obtain⟨rfl,rfl⟩:=b;simp only[List.append_nil]at e;exact wpAnyH_done d.2 (h a w e) _
theorem Ok.put {v:Value} (h:Ok c ops env Js) (hd:(Js.all fun p=> !Nat.beq p.d d&&(c0E p.e0 d).isNone)=true):Ok c ops ((d,v)::env) Js:=by
 obtain⟨f,n,l⟩:=h;have a:=List.all_eq_true.1 hd;refine⟨?_,fun p o=> ?_,l⟩
 ·clear n l hd
  induction Js with
  |nil=>rfl
  |cons p Js ih=>
   simp only[Frs,Bool.and_eq_true,Option.isNone_iff_eq_none]at f ⊢;refine⟨?_,f.2.1,f.2.2.1,ih f.2.2.2 (fun q s=>a q (by simp[s]))⟩;have:=a p (by simp);simp only[Bool.and_eq_true,Bool.not_eq_true']at this;have i:Nat.beq d p.d=false:=by
    cases hb:Nat.beq d p.d with
    |false=>rfl
    |true=>have e:=Nat.eq_of_beq_eq_true hb;rw[e]at this;simp at this
   simp only[c0E,i];exact f.1
 ·have m:=a p o;simp only[Bool.and_eq_true,Option.isNone_iff_eq_none]at m;have t:=n p o;have r: ∀e0:List (Nat×Value),Sub env e0→c0E e0 d=none→Sub ((d,v)::env) e0:=by
   intro e0
   induction e0 with
   |nil=>intro _ _;exact Sub.nil
   |cons x e0 ih=>
    obtain⟨k,u⟩:=x;intro j b;simp only[c0E]at b;cases hb:Nat.beq k d with
    |true=>rw[hb]at b;cases b
    |false=>
     rw[hb]at b;refine Sub.cons ?_ (ih j.2 b);simp only[c0E];cases g:Nat.beq d k with
     |true=>have e:=Nat.eq_of_beq_eq_true g;rw[e]at hb;simp at hb
     |false=>exact j.1
  exact r p.e0 t m.2
theorem i1K {o:Oper} {v:Value} (hi:ops[i]? =some o) (q:o.dst=some d) (z: ∀a w,b0J c env K a w→YieldsIf c.P ops (q0M c K) o v a) (h:OMf c ops Q K Js plan ((d,v)::env) L) (l:(Js.all fun p=> !Nat.beq p.d d&&(c0E p.e0 d).isNone)=true) (hd:Nat.blt d c.n=true):
 OMf c ops Q K Js (.soft i plan) env L:=by
 intro A S E X a w j u s r f b k;simp only[k0V,Bool.and_eq_true]at j;obtain⟨B,g,_⟩:=s0B Js S A [] (PX.length f) j.1;simp only[Bool.and_eq_true]at g;have m:b0J c env K a w:=⟨b.size,fun t v y=>b.slots t v (by rw[p0W,y];rfl),b.defers,k,b.like⟩;have e:(g0N.soft i plan).len+cnt S=(plan.len+cnt S)+1:=by simp only[g0N.len];omega
 rw[e];refine wpAnyH_take (v:=v) hi u g.1 g.2 (fun x a w=>s x a _ _ w) (z a w m) ⟨k,b.like⟩ ?_;rw[q,←k1X];exact h _ S E X _ w j.2 u s (r.put l) f (b.put d v hd) k
theorem h0L {v:Value} (hi:ops[i]? =some ⟨some d,op,ty,pos,af,none⟩) (g:a0P c ⟨some d,op,ty,pos,af,none⟩ env K v) (h:OMf c ops Q K Js plan ((d,v)::env) L) (b:(Js.all fun p=> !Nat.beq p.d d&&(c0E p.e0 d).isNone)=true:=by rfl) (hd:Nat.blt d c.n=true:=by rfl):OMf c ops Q K Js (.soft i plan) env L:=
 i1K hi rfl (fun a _ e=> .inl ⟨rfl,fun j f=>g a j ⟨e.size,e.slots,e.defers,f.1,f.2⟩⟩) h b hd
theorem x2E {v:Value} {gd:Nat×Bool} (hi:ops[i]? =some ⟨some d,op,ty,pos,af,some gd⟩) (j:a0P c ⟨some d,op,ty,pos,af,some gd⟩ env K v)
 (g: ∀a w,b0J c env K a w→Region.wanted ⟨some d,op,ty,pos,af,some gd⟩ (yielded ops a.tmps)=true) (h:OMf c ops Q K Js plan ((d,v)::env) L) (e:(Js.all fun p=> !Nat.beq p.d d&&(c0E p.e0 d).isNone)=true:=by rfl) (hd:Nat.blt d c.n=true:=by rfl):OMf c ops Q K Js (.soft i plan) env L:=
 i1K hi rfl (fun a w b=> .inl ⟨g a w b,fun k f=>j a k ⟨b.size,b.slots,b.defers,f.1,f.2⟩⟩) h e hd
theorem n2S {o:Oper} (hi:ops[i]? =some o) (e:o.dst=some d) (g: ∀a w,b0J c env K a w→Region.wanted o (yielded ops a.tmps)=false) (h:OMf c ops Q K Js plan ((d,undef)::env) L) (b:(Js.all fun p=> !Nat.beq p.d d&&(c0E p.e0 d).isNone)=true:=by rfl) (hd:Nat.blt d c.n=true:=by rfl):
 OMf c ops Q K Js (.soft i plan) env L:=
 i1K hi e (fun a w f=> .inr ⟨g a w f,rfl⟩) h b hd
def KMf (c:Cx) (ops:Array Oper) (Q:Exit→Act→World→Prop) (K:List a0E) (Js:List p0G) (plan:g0N) (E:List (Nat×Value)) (F:a0E) (a:Act) (w:World):Prop:=
 q0M c K w∧ ∃env' L',b0J c (env'++E) (L'++ [F]) a w∧Ok c ops env' Js∧OMf c ops Q K Js plan env' L'
inductive Tl (E:List (Nat×Value)):List (Nat×Value)→List (Nat×Value)→Prop
 |nil:Tl E E []
 |cons {x l m} (h:Tl E l m):Tl E (x::l) (x::m)
theorem Tl.eq {E l m} (h:Tl E l m):l=m++E:=by
 induction h with
 |nil=>rfl
 |cons _ ih=>rw[ih];rfl
theorem n2T {E b:List (Nat×Value)} {F:a0E} {d R:List a0E} (g:Tl E b env) (i:Fnd d F L) (j:b0A d K R) (f:Ok c ops env Js) (h:OMf c ops Q K Js plan env L):KW c (Exit.then (KMf c ops Q K Js plan E F) Q) .normal b d:=by
 intro a w e;have k:Sat w K:=((e.sat.perm j).perm List.perm_append_comm).drop;refine⟨⟨k,e.like⟩,env,L,?_,f,h⟩;rw[←g.eq];exact⟨e.size,e.slots,e.defers,(i.sat e.sat).perm (List.perm_append_comm (l₁:= [F]) (l₂:=L)),e.like⟩
theorem z2M {o:Oper} {N:Act→World→Prop} {env:List (Nat×Value)} {L:List a0E} {a:Act} {w:World} (hi:ops[i]? =some o) (h:OW c ops (Exit.then N Q) [o] env L) (f:b0J c env L a w):wpOp c.P ops Q i N a w:=by
 have d:=h a w f;unfold wpOp;simp only[hi];unfold wpList at d;split
 ·rename_i b;rw[if_pos b]at d;rcases d with d| ⟨e,g⟩
  ·left;rw[n1N]at d;exact Oper.wp_mono (fun _ _ h=>h) d
  ·exact .inr ⟨e,g⟩
 ·rename_i b;rw[if_neg b]at d;exact d
theorem b0Y {o:Oper} (hi:ops[i]? =some o) (h:Ok c ops env Js→ ∀E F,OW c ops (Exit.then (KMf c ops Q K Js plan E F) Q) [o] (env++E) (F::L)):OMf c ops Q K Js (.hard i plan) env L:=by
 intro s;suffices H: ∀n S E X a w,cnt S=n→k0V ops (.hard i plan) (Js.map (·.j)) s=true→Region.noSelect ops=true→b0T Q→Ok c ops env Js→PX Js S E X→b0J c (env++E) (L++X) a w→Sat w K→
  wpAnyH c.P .any ops Q (q0M c K) ((g0N.hard i plan).len+cnt S) (ap Js S s) a w from fun S E X a w=>H _ S E X a w rfl
 intro n
 induction n using Nat.strongRecOn with
 |_ n ih=>
  intro S E X a w Z q J G d f k V;have x:=q;simp only[k0V,Bool.and_eq_true]at q;obtain⟨un,m,U⟩:=s0B Js S s [] (PX.length f) q.1;simp only[Bool.and_eq_true]at m;have e:(g0N.hard i plan).len+cnt S=(plan.len+cnt S)+1:=by simp only[g0N.len];omega
  rw[e];refine wpAnyH_all (rs:=Region.ready .any ops (ap Js S s)) rfl (fun T=>by rw[T]at m;simp at m) ?_;intro r W;have g:=List.all_eq_true.1 m.2 r W;simp only[Bool.or_eq_true]at g;rcases g with g|g
  ·have:r=i:=Nat.eq_of_beq_eq_true g;subst this;have z:b0J c (env++E) (b0E X::L) a w:=⟨k.size,k.slots,k.defers,b0M.2 (k.sat.perm List.perm_append_comm),k.like⟩;refine wpOp_mono ?_ (z2M hi (h d E (b0E X)) z);rintro u A ⟨I,B,L',b,l,y⟩;refine⟨I,?_⟩;rw[←k1X];refine y _ S E X u A q.2 J G l f ⟨b.size,b.slots,b.defers,?_,b.like⟩ I.1;have:=b.sat.perm (List.perm_append_comm (l₁:=L') (l₂:= [b0E X]));exact(b0M.1 this).perm List.perm_append_comm
  ·have v:=U r (by simpa using g);rcases v with v| ⟨p,t,hu,rfl⟩
   ·cases v
   ·refine e1B d hu f k V (fun M N u A R C D=>⟨⟨D,C.like⟩,?_⟩);have Y:=hu.cnt;have:=ih (cnt t) (by omega) t M N u A rfl x J G d R C D;rw[hu.ap]at this;have O:(g0N.hard i plan).len+cnt t=plan.len+cnt S:=by simp only[g0N.len];omega
    rwa [O]at this
theorem p1K {p:p0G} (k:AL c ops p) (r:Sub env p.e0) (b:((c0E env p.d).isNone&&((Js.all fun q=> !Nat.beq q.d p.d&&(c0E q.e0 p.d).isNone&&(c0E p.e0 q.d).isNone)&&(c0E p.e0 p.d).isNone))=true) (h:OMf c ops Q K (p::Js) plan env L):OMf c ops Q K Js (.float p.j plan) env L:=by
 intro u S E X a w m t o f l s n;simp only[Bool.and_eq_true]at b;have i:Ok c ops env (p::Js):=by
  refine⟨?_,fun q g=> ?_,fun q g=> ?_⟩
  ·simp only[Frs,Bool.and_eq_true];exact⟨b.1,b.2.1,b.2.2,f.1⟩
  ·rcases List.mem_cons.1 g with rfl|g
   ·exact r
   ·exact f.2.1 q g
  ·rcases List.mem_cons.1 g with rfl|g
   ·exact k
   ·exact f.2.2 q g
 have:=h u (false::S) E X a w (by simpa [k0V] using m) t o i l s n;have e:plan.len+cnt (false::S)=(g0N.float p.j plan).len+cnt S:=by simp only[g0N.len,cnt];omega
 rw[e]at this;simpa only[ap] using this
theorem l0Y {p:p0G} (h: ∀b,OMf c ops Q K Js plan ((p.d,p.v b)::env) (pts b p.o::L)):OMf c ops Q K (p::Js) (.res plan) env L:=by
 intro z;have base: ∀S E X a w,k0V ops (.res plan) ((p::Js).map (·.j)) z=true→Region.noSelect ops=true→b0T Q→Ok c ops env (p::Js)→PX (p::Js) (true::S) E X→b0J c (env++E) (L++X) a w→Sat w K→
  wpAnyH c.P .any ops Q (q0M c K) (plan.len+cnt S) (ap Js S (z.setIfInBounds p.j true)) a w:=by
  intro S E X a w k x m f g i l;obtain⟨b,A,B,rfl,rfl,hp⟩:=g;simp only[List.map_cons,k0V,Bool.and_eq_true]at k;have O:=f.1;simp only[Frs,Bool.and_eq_true,Option.isNone_iff_eq_none]at O;have G:Ok c ops env Js:=⟨O.2.2.2,fun q J=>f.2.1 q (by simp[J]),fun q J=>f.2.2 q (by simp[J])⟩;have I:Ok c ops ((p.d,p.v b)::env) Js:=G.put (by
   refine List.all_eq_true.2 fun q J=> ?_;have:=List.all_eq_true.1 O.2.1 q J;simp only[Bool.and_eq_true]at this ⊢;exact⟨this.1.1,this.1.2⟩)
  refine h b _ S A B a w k.2 x m I hp ⟨i.size,?_,i.defers,i.sat.perm List.perm_middle,i.like⟩ l;intro t u M;refine i.slots t u ?_;rw[p0W];simp only[List.cons_append,c0E]at M ⊢;cases hb:Nat.beq p.d t with
  |true=>
   have e:=Nat.eq_of_beq_eq_true hb;rw[hb]at M;rw[←e,O.1];simpa using M
  |false=>
   rw[hb]at M;simpa [p0W] using M
 suffices H: ∀n S E X a w,cnt S=n→k0V ops (.res plan) ((p::Js).map (·.j)) z=true→Region.noSelect ops=true→b0T Q→Ok c ops env (p::Js)→PX Js S E X→b0J c (env++E) (L++X) a w→Sat w K→
  wpAnyH c.P .any ops Q (q0M c K) (plan.len+cnt S+1) (ap Js S z) a w by
  intro S E X a w k x m f g i l;cases S with
  |nil=>exact g.elim
  |cons s S=>
   cases s with
   |true=>exact base S E X a w k x m f g i l
   |false=>exact H _ S E X a w rfl k x m f g i l
 intro n
 induction n using Nat.strongRecOn with
 |_ n ih=>
  intro S E X a w hn k x m f g i l;have F:=k;simp only[List.map_cons,k0V,Bool.and_eq_true]at k;obtain⟨un,N,h2⟩:=s0B Js S z [] (PX.length g) k.1;simp only[Bool.and_eq_true]at N;refine wpAnyH_all (rs:=Region.ready .any ops (ap Js S z)) rfl (fun Z=>by rw[Z]at N;simp at N) ?_;intro r hr;have y:=List.all_eq_true.1 N.2 r hr;simp only[Bool.or_eq_true]at y;rcases y with y|y
  ·have:r=p.j:=Nat.eq_of_beq_eq_true y;subst this;refine e1B (Js:=p::Js) (S:=false::S) f Upd.here g i l (fun A B T W U C D=>⟨⟨D,C.like⟩,?_⟩);rw[←k1X];exact base S A B T W F x m f U C D
  ·have V:=h2 r (by simpa using y);rcases V with V| ⟨q,R,hu,rfl⟩
   ·cases V
   ·refine e1B (Js:=p::Js) (S:=false::S) f hu.there g i l (fun A B T W U C D=>⟨⟨D,C.like⟩,?_⟩);have hc:=hu.cnt;have:=ih (cnt R) (by omega) R A B T W rfl F x m f U C D;rw[hu.ap]at this;have Y:plan.len+cnt R+1=plan.len+cnt S:=by omega
    rwa [Y]at this
theorem n2U {id:Nat} {l:List Oper} {R:List a0E} (plan:g0N) (K:List a0E) (n:c.P.follows .mixedOrders=true)
 (b:(Region.noSelect l.toArray&&(Nat.beq plan.len l.length&&k0V l.toArray plan [] (Array.replicate l.length false)))=true) (k:b0T Q) (j:b0A L K R) (h:OMf c l.toArray Q K [] plan env L):CW c (.region id l.toArray true) Q env L:=by
 intro a w m;simp only[Bool.and_eq_true]at b;have d:=m.drew;have o:Sat w.drew K:=((d.sat.perm j).perm List.perm_append_comm).drop;have g:=h _ [] [] [] a w.drew b.2.2 b.1 k ⟨rfl,(fun p f=>by cases f),fun p f=>by cases f⟩ ⟨rfl,rfl⟩ (by simpa using d) o;refine wp_region_held (S:=q0M c K) n ?_;have e:plan.len=l.toArray.size:=by simpa using Nat.eq_of_beq_eq_true b.2.1
 have i:Array.replicate plan.len false=Array.replicate l.length false:=by rw[Nat.eq_of_beq_eq_true b.2.1]
 simp only[cnt,Nat.add_zero,ap]at g;rw[←e,i];exact g
end
end
end Go.Sl
namespace Go.Sl
open Go.BigFrame
section
def b0I (e:TypeId) (size:Nat) (v:Value) (n:Nat) (xs:List Value):a0E:=fun l=>
 xs.length=n*size∧((v= .slice none 0 0∧n=0∧l= [])∨
  ∃(g cap:Nat) (cur:List Value),v= .slice (some ⟨g,0,none⟩) n cap∧n≤cap∧cap≤maxLen∧cur.length=cap*size∧cur.take (n*size)=xs∧l= [(g,.cells cur.toArray e (0,0))])
theorem s1O (e:TypeId) (size:Nat) {w:World} {L:List a0E} (h:Sat w L):Sat w (b0I e size (.slice none 0 0) 0 []::L):=by
 obtain⟨l,a,b,c⟩:=h;exact⟨l,⟨[],l,rfl,⟨by simp,.inl ⟨rfl,rfl,rfl⟩⟩,a⟩,b,c⟩
theorem f0O {e:TypeId} {size:Nat} {v:Value} {n:Nat} {xs:List Value} {w:World} {L:List a0E} (h:Sat w (b0I e size v n xs::L)):
 xs.length=n*size∧((v= .slice none 0 0∧n=0∧Sat w L)∨
  ∃(g cap:Nat) (cur:List Value),v= .slice (some ⟨g,0,none⟩) n cap∧n≤cap∧cap≤maxLen∧cur.length=cap*size∧cur.take (n*size)=xs∧Sat w (pts g (.cells cur.toArray e (0,0))::L)):=by
 obtain⟨l,⟨p,d,rfl,⟨o,m⟩,a⟩,c,b⟩:=h;refine⟨o,?_⟩;rcases m with ⟨rfl,rfl,rfl⟩| ⟨g,cap,cur,rfl,f,i,j,k,rfl⟩
 ·exact .inl ⟨rfl,rfl,d,a,c,b⟩
 ·exact .inr ⟨g,cap,cur,rfl,f,i,j,k,_,⟨_,d,rfl,rfl,a⟩,c,b⟩
theorem r0J {e:TypeId} {size:Nat} {n g cap:Nat} {cur xs:List Value} {w:World} {L:List a0E} (h:Sat w (pts g (.cells cur.toArray e (0,0))::L)) (a:n≤cap) (d:cap≤maxLen) (b:cur.length=cap*size)
 (c:cur.take (n*size)=xs):Sat w (b0I e size (.slice (some ⟨g,0,none⟩) n cap) n xs::L):=by
 refine h.mono_head fun l f=>⟨?_,.inr ⟨g,cap,cur,rfl,a,d,b,c,f⟩⟩;rw[←c,List.length_take,b];exact Nat.min_eq_left (Nat.mul_le_mul_right _ a)
theorem n1O {e:TypeId} {size:Nat} {v:Value} {n:Nat} {xs:List Value} {w:World} {L:List a0E} (h:Sat w (b0I e size v n xs::L)):v.oneCell'=true:=by
 obtain⟨_,a⟩:=f0O h;rcases a with ⟨rfl,_⟩| ⟨g,cap,cur,rfl,_⟩<;>rfl
def r0K (P:Program) (e n:Nat):Bool:=match P.info? e with|some i=>i.bytes == n|none=>false
section
variable {c:Cx} {ops:Array Oper} {Q:Exit→Act→World→Prop} {rest:List Oper} {env:List (Nat×Value)} {L M:List a0E}
 {d:Tmp} {ty:TypeId} {pos:String} {af:Array Edge}
theorem d0E {s x:Operand} {t Z e size q n m:Nat} {v y z:Value} {xs news:List Value} (ht:c0X c.P t e size=true) (A:r0K c.P e q=true)
 (hz:h0D c.P e=some z) (hzs:z.cells.size=size) (hs:evo env s=some v) (hx:evo env x=some y)
 (hL:Fnd L (b0I e size v n xs) M) (H: ∀a w,b0J c env L a w→Src c.P size Z y m news w) (I:n+m≤maxLen) (hb:(n+m)*q≤140737488355328)
 (h: ∀E,E.oneCell'=true→OW c ops Q rest ((d,E)::env) (b0I e size E (n+m) (xs++news)::M)) (hd:Nat.blt d c.n=true:=by rfl):
 OW c ops Q (⟨some d,.call {callee:= .builtin .append,args:= #[s,x],argTypes:= #[t,Z]},ty,pos,af,none⟩::rest) env L:=by
 intro a w B;simp only[c0X,Bool.and_eq_true]at ht;obtain⟨C,D⟩:=ht;split at C
 case h_2=>cases C
 rename_i j hu;simp only[beq_iff_eq]at C;subst C;unfold r0K at A;split at D
 case h_2=>cases D
 rename_i i hi;unfold h0D at hz;rw[hi]at A hz;simp only[beq_iff_eq]at D A;subst D;subst A;have f:=H a w B;have hsrD:=H a w.drew B.drew;have X:=hL.sat B.sat;obtain⟨G,J⟩:=f0O X;refine wpList_plain rfl fun K hK=> ?_;have N: ∃E w',(Builtin.append_ #[t,Z] ty #[v,y]).run c.P w= .ok E w'∧Sat w' (b0I j i.size E (n+m) (xs++news)::M)∧d0S w w':=by
  have O:news.length=m*i.size:=f.newsLen;have l:(xs++news).length=(n+m)*i.size:=by rw[List.length_append,G,O,Nat.add_mul]
  have k: ∀(old:Nat),old<n+m→Sat w M→
   Sat (w.drew.alloc (.cells ((xs++news).toArray++Builtin.zeroCells z.cells (grownCap w (n+m) old j- (n+m))) j)) (b0I j i.size (.slice (some ⟨w.heap.size,0,none⟩) (n+m) (grownCap w (n+m) old j)) (n+m) (xs++news)::M):=by
   intro old ho u;have hge:=grownCap_ge w (n+m) old j;have h1:=(u.drew).alloc (.cells ((xs++news).toArray++Builtin.zeroCells z.cells (grownCap w (n+m) old j- (n+m))) j);have S:((xs++news).toArray++Builtin.zeroCells z.cells (grownCap w (n+m) old j- (n+m)))=((xs++news)++(Builtin.zeroCells z.cells (grownCap w (n+m) old j- (n+m))).toList).toArray:=by
    apply Array.ext';simp
   rw[S]at h1 ⊢;refine r0J h1 hge (grownCap_le_maxLen w (n+m) old j I) ?_ ?_
   ·rw[List.length_append,l,Array.length_toList,size_zeroCells,hzs,←Nat.add_mul];congr 1;omega
   ·rw[←l];exact List.take_left
  rcases J with ⟨rfl,rfl,u⟩| ⟨g,cap,cur,rfl,hnc,hcm,T,r,u⟩
  ·have hxs:xs= []:=List.eq_nil_of_length_eq_zero (by simpa using G);subst hxs;by_cases hm:m=0
   ·subst hm;have hn0:news= []:=List.eq_nil_of_length_eq_zero (by simpa using O);subst hn0;refine⟨.slice none 0 0,w,?_,s1O _ _ u,d0S.refl w⟩;rcases f.kind with ⟨e2,U⟩|U<;>
     simp[Builtin.append_,run_underlying hu,run_underlying U,sizeOf,typeInfo,hi,f.len,f.cells]
   ·have R:=run_append_grow_src (P:=c.P) (w:=w) t Z ty j i z hu hi hz none 0 0 [] (by simp[Builtin.firstCells]) y m news f (by omega) (by simp only[maxLen]at I;omega) (growslice_fits (by omega) hb);simp only[Nat.zero_add,List.nil_append]at R k ⊢;exact⟨_,_,R,k 0 (by omega) u,(d0S.refl w).drew.alloc _⟩
  ·by_cases p:n+m≤cap
   ·have F:n*i.size+0+news.length≤cur.toArray.size:=by
     rw[List.size_toArray,O,T,Nat.add_zero,←Nat.add_mul];exact Nat.mul_le_mul_right _ p
    have Y:=n0T (P:=c.P) news (n*i.size) 0 cur.toArray w u.pts F f.one;simp only[Nat.add_zero]at Y;refine⟨.slice (some ⟨g,0,none⟩) (n+m) cap,_,?_,?_,(d0S.refl w).put g (.cells (cur.toArray.extract 0 (n*i.size)++news.toArray++cur.toArray.extract (n*i.size+news.length) cur.toArray.size) j (0,0))⟩
    ·rcases f.kind with ⟨e2,U⟩|U<;>
      simp[Builtin.append_,run_underlying hu,run_underlying U,sizeOf,typeInfo,hi,f.len,f.cells,p,j0C,Y]
    ·have hcl':n*i.size+news.length≤cur.length:=by simpa using F
     have S:(cur.toArray.extract 0 (n*i.size)++news.toArray++cur.toArray.extract (n*i.size+news.length) cur.toArray.size)=(cur.take (n*i.size)++news++cur.drop (n*i.size+news.length)).toArray:=by
      apply Array.ext';simp;rw[List.take_of_length_le (by simp)]
     rw[S];refine r0J u.put p hcm ?_ ?_
     ·simp only[List.length_append,List.length_take,List.length_drop];omega
     ·rw[r,←l];exact List.take_left
   ·have V:(Builtin.firstCells i.size n (.slice (some ⟨g,0,none⟩) n cap)).run c.P w.drew= .ok xs.toArray w.drew:=by
     have h1:=g0U (P:=c.P) (w:=w.drew) (b:=g) (o:=0) (n:=n*i.size) (cs:=cur.toArray) (e:=j) (fr:=(0,0)) u.drew.pts (by
      rw[List.size_toArray,T,Nat.zero_add];exact Nat.mul_le_mul_right _ hnc)
     have S:cur.toArray.extract 0 (0+n*i.size)=xs.toArray:=by apply Array.ext';simp[r]
     simp only[Builtin.firstCells];rw[h1,S]
    have R:=run_append_grow_src (P:=c.P) (w:=w) t Z ty j i z hu hi hz (some ⟨g,0,none⟩) n cap xs V y m news f (by omega) (by simp only[maxLen]at I;omega) (growslice_fits (by omega) hb);exact⟨_,_,R,k cap (by omega) u.tail,(d0S.refl w).drew.alloc _⟩
 obtain⟨E,w',R,W,hl⟩:=N;unfold Oper.wp;rw[execOp_builtin,builtin_append];have e1:(#[s,x]:Array Operand).map a.eval= #[v,y]:=by simp[B.eval hs,B.eval hx]
 rw[e1];simp only[Sem.run_bind,R,Result.andThen_ok,Sem.run_pure,Oper.upon];exact hK _ _ (h E (n1O W) _ _ ((⟨B.size,B.slots,B.defers,W,B.like.trans hl⟩:b0J c env _ a w').put d E hd))
end
end
end Go.Sl

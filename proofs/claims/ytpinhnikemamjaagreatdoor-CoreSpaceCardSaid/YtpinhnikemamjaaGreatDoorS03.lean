/- Part of the proof; no statement of its own. -/
import Derived.Test.YtpinhnikemamjaaGreatDoorS02
import Derived.Deep.AppendSrc
set_option linter.all false
set_option maxRecDepth 4000
set_option maxHeartbeats 4000000
namespace Go.Sl
section
structure p0G where
 j:Nat
 d:Nat
 v:Nat→Value
 o:Obj
 e0:List (Nat×Value)
def ap:List p0G→List Bool→Array Bool→Array Bool
 |p::Js,true::S,l=>ap Js S (l.setIfInBounds p.j true)
 |_::Js,false::S,l=>ap Js S l
 |_,_,l=>l
def PX:List p0G→List Bool→List (Nat×Value)→List a0E→Prop
 | [],[],E,X=>E= []∧X= []
 |p::Js,true::S,E,X=> ∃b E' X',E=(p.d,p.v b)::E'∧X=pts b p.o::X'∧PX Js S E' X'
 |_::Js,false::S,E,X=>PX Js S E X
 |_,_,_,_=>False
def cnt:List Bool→Nat
 | []=>0
 |true::S=>cnt S
 |false::S=>cnt S+1
inductive Upd:List p0G→List Bool→List Bool→p0G→Prop
 |here {p Js S} :Upd (p::Js) (false::S) (true::S) p
 |there {p q Js s S S'} (h:Upd Js S S' p):Upd (q::Js) (s::S) (s::S') p
theorem Upd.mem {Js S S' p} (h:Upd Js S S' p):p∈Js:=by
 induction h with
 |here=>simp
 |there _ ih=>simp[ih]
theorem Upd.cnt {Js S S' p} (h:Upd Js S S' p):Sl.cnt S=Sl.cnt S'+1:=by
 induction h with
 |here=>simp[Sl.cnt]
 |there h ih=>rename_i s _ _;cases s<;>simp[Sl.cnt,ih]
theorem k1X (Js:List p0G): ∀(S:List Bool) (l:Array Bool) (i:Nat),ap Js S (l.setIfInBounds i true)=(ap Js S l).setIfInBounds i true:=by
 induction Js with
 |nil=>intro S l i;simp[ap]
 |cons p Js ih=>
  intro S l i;cases S with
  |nil=>simp[ap]
  |cons s S=>
   cases s with
   |false=>simp only[ap];exact ih S l i
   |true=>
    simp only[ap];rw[←ih S _ i];congr 1;by_cases h:i=p.j
    ·subst h;rfl
    ·rw[Array.setIfInBounds_comm _ _ h]
theorem Upd.ap {Js S S' p} (h:Upd Js S S' p): ∀(l:Array Bool),ap Js S' l=(ap Js S l).setIfInBounds p.j true:=by
 induction h with
 |here=>intro l;simp only[Sl.ap];exact k1X _ _ _ _
 |there h ih=>intro l;rename_i s _ _;cases s<;>simp only[Sl.ap]<;>exact ih _
def t0E (f:Array Bool→List Nat→Bool):List Nat→Array Bool→List Nat→Bool
 | [],l,un=>f l un
 |j::js,l,un=>t0E f js (l.setIfInBounds j true) un&&t0E f js l (j::un)
theorem s0B {f:Array Bool→List Nat→Bool} : ∀(Js:List p0G) (S:List Bool) (l:Array Bool) (un:List Nat),S.length=Js.length→t0E f (Js.map (·.j)) l un=true→
 ∃un',f (ap Js S l) un'=true∧ ∀r∈un',r∈un∨ ∃p S',Upd Js S S' p∧p.j=r
 | [],[],l,un,_,h=>⟨un,by simpa [t0E,ap] using h,fun r hr=> .inl hr⟩
 |p::Js,true::S,l,un,hl,h=>by
  simp only[List.map_cons,t0E,Bool.and_eq_true]at h;obtain⟨un',h1,h2⟩:=s0B Js S _ un (by simpa using hl) h.1;exact⟨un',h1,fun r hr=>(h2 r hr).imp id fun⟨q,S',hu,e⟩=>⟨q,_,hu.there,e⟩⟩
 |p::Js,false::S,l,un,hl,h=>by
  simp only[List.map_cons,t0E,Bool.and_eq_true]at h;obtain⟨un',h1,h2⟩:=s0B Js S _ (p.j::un) (by simpa using hl) h.2;refine⟨un',h1,fun r hr=> ?_⟩;rcases h2 r hr with h3| ⟨q,S',hu,e⟩
  ·rcases List.mem_cons.1 h3 with rfl|h3
   ·exact .inr ⟨p,_,Upd.here,rfl⟩
   ·exact .inl h3
  ·exact .inr ⟨q,_,hu.there,e⟩
inductive g0N where
 |done
 |soft (i:Nat) (p:g0N)
 |hard (i:Nat) (p:g0N)
 |float (j:Nat) (p:g0N)
 |res (p:g0N)
def g0N.len:g0N→Nat
 | .done=>0
 | .soft _ p| .hard _ p| .float _ p=>p.len+1
 | .res p=>p.len
def k0V (ops:Array Oper):g0N→List Nat→Array Bool→Bool
 | .done,js,l=>js.isEmpty&&(Region.ready .any ops l).isEmpty
 | .soft i p,js,l=>t0E (fun l _=>Region.free .any ops l i&&(Region.ready .any ops l).contains i) js l []&&k0V ops p js (l.setIfInBounds i true)
 | .hard i p,js,l=>t0E (fun l un=>(Region.ready .any ops l).contains i&&(Region.ready .any ops l).all fun r=>Nat.beq r i || un.contains r) js l []&&k0V ops p js (l.setIfInBounds i true)
 | .float j p,js,l=>k0V ops p (j::js) l
 | .res p,js,l=>match js with
  |j::js=>t0E (fun l un=>(Region.ready .any ops l).contains j&&(Region.ready .any ops l).all fun r=>Nat.beq r j || un.contains r) js l []&&k0V ops p js (l.setIfInBounds j true)
  | []=>false
def AL (c:Cx) (ops:Array Oper) (p:p0G):Prop:=
 ∃oj,ops[p.j]? =some oj∧oj.dst=some p.d∧Nat.blt p.d c.n=true∧ ∀a w,b0J c p.e0 [] a w→Region.wanted oj (yielded ops a.tmps)=true∧(execOp a.eval oj).run c.P w= .ok (.value (p.v w.heap.size)) (w.alloc p.o)
def Frs (env:List (Nat×Value)):List p0G→Bool
 | []=>true
 |p::Js=>(c0E env p.d).isNone&&((Js.all fun q=> !Nat.beq q.d p.d&&(c0E q.e0 p.d).isNone&&(c0E p.e0 q.d).isNone)&&((c0E p.e0 p.d).isNone&&Frs env Js))
def Opd (env:List (Nat×Value)) (Js:List p0G):Prop:= ∀p∈Js,Sub env p.e0
def Ok (c:Cx) (ops:Array Oper) (env:List (Nat×Value)) (Js:List p0G):Prop:=Frs env Js=true∧Opd env Js∧ ∀p∈Js,AL c ops p
def OMf (c:Cx) (ops:Array Oper) (Q:Exit→Act→World→Prop) (K:List a0E) (Js:List p0G) (plan:g0N) (env:List (Nat×Value)) (L:List a0E):Prop:=
 ∀(l0:Array Bool) (S:List Bool) (E:List (Nat×Value)) (X:List a0E) (a:Act) (w:World),k0V ops plan (Js.map (·.j)) l0=true→Region.noSelect ops=true→b0T Q→Ok c ops env Js→
  PX Js S E X→b0J c (env++E) (L++X) a w→Sat w K→wpAnyH c.P .any ops Q (q0M c K) (plan.len+cnt S) (ap Js S l0) a w
theorem p0W {env E:List (Nat×Value)} {t:Nat} :c0E (env++E) t=(c0E env t).or (c0E E t):=by
 induction env with
 |nil=>simp[c0E]
 |cons x env ih=>
  obtain⟨k,v⟩:=x;simp only[List.cons_append,c0E];cases Nat.beq k t<;>simp[ih]
theorem PX.length: ∀ {Js S E X},PX Js S E X→S.length=Js.length
 | [],[],_,_,_=>rfl
 |_::Js,true::S,_,_,⟨_,E,X,_,_,h⟩=>by have:= @PX.length Js S E X h;simp[this]
 |_::Js,false::S,E,X,h=>by have:= @PX.length Js S E X h;simp[this]
theorem PX.keys: ∀ {Js S E X t u},PX Js S E X→c0E E t=some u→ ∃p∈Js,p.d=t
 | [],[],E,X,t,u,h,hl=>by obtain⟨rfl,_⟩:=h;simp[c0E]at hl
 |p::Js,true::S,E,X,t,u,⟨b,E',X',e1,_,h⟩,hl=>by
  subst e1;simp only[c0E]at hl;cases hb:Nat.beq p.d t with
  |true=>exact⟨p,by simp,Nat.eq_of_beq_eq_true hb⟩
  |false=>rw[hb]at hl;obtain⟨q,hq,e⟩:=PX.keys h hl;exact⟨q,by simp[hq],e⟩
 |p::Js,false::S,E,X,t,u,h,hl=>by
  obtain⟨q,hq,e⟩:=PX.keys (show PX Js S E X from h) hl;exact⟨q,by simp[hq],e⟩
theorem Frs.env: ∀ {env Js p},Frs env Js=true→p∈Js→c0E env p.d=none
 |env,q::Js,p,h,hp=>by
  simp only[Frs,Bool.and_eq_true,Option.isNone_iff_eq_none]at h;rcases List.mem_cons.1 hp with rfl|hp
  ·exact h.1
  ·exact Frs.env h.2.2.2 hp
theorem PX.upd {Js S S' p} (hu:Upd Js S S' p): ∀ {E X env} (b:Nat),Frs env Js=true→PX Js S E X→ ∃E' X',PX Js S' E' X'∧(∀t u,c0E E' t=some u→(t=p.d∧u=p.v b)∨(t≠p.d∧c0E E t=some u))∧X'.Perm (pts b p.o::X):=by
 induction hu with
 |here=>
  rename_i p Js S;intro E X env b hf h;simp only[Frs,Bool.and_eq_true,List.all_eq_true]at hf;refine⟨(p.d,p.v b)::E,pts b p.o::X,⟨b,E,X,rfl,rfl,h⟩,fun t u hl=> ?_,List.Perm.refl _⟩;simp only[c0E]at hl;cases hb:Nat.beq p.d t with
  |true=>rw[hb]at hl;exact .inl ⟨(Nat.eq_of_beq_eq_true hb).symm,(Option.some.inj hl).symm⟩
  |false=>rw[hb]at hl;exact .inr ⟨fun e=>by subst e;simp at hb,hl⟩
 |there hu ih=>
  rename_i p q Js s S S';intro E X env b hf h;have hf':=hf;simp only[Frs,Bool.and_eq_true]at hf;cases s with
  |false=>exact ih b hf.2.2.2 (show PX Js S E X from h)
  |true=>
   obtain⟨b',E1,X1,rfl,rfl,h1⟩:=h;obtain⟨E',X',h2,h3,h4⟩:=ih b hf.2.2.2 h1;have hne:q.d≠p.d:=by
    have hp:p∈Js:=hu.mem;have:=List.all_eq_true.1 hf.2.1 p hp;simp only[Bool.and_eq_true,Bool.not_eq_true']at this;intro e;rw[e]at this;simp at this
   refine⟨(q.d,q.v b')::E',pts b' q.o::X',⟨b',E',X',rfl,rfl,h2⟩,fun t u hl=> ?_,(List.Perm.cons _ h4).trans (List.Perm.swap _ _ _)⟩;simp only[c0E]at hl ⊢;cases hb:Nat.beq q.d t with
   |true=>
    rw[hb]at hl;have:q.d=t:=Nat.eq_of_beq_eq_true hb;exact .inr ⟨by rw[←this];exact hne,hl⟩
   |false=>rw[hb]at hl;exact h3 t u hl
section
variable {c:Cx} {ops:Array Oper} {Q:Exit→Act→World→Prop} {K:List a0E} {plan:g0N} {env:List (Nat×Value)} {L:List a0E} {Js:List p0G}
 {d:Tmp} {op:Op} {ty:TypeId} {pos:String} {af:Array Edge} {i:Nat}
theorem e1B {S S':List Bool} {p:p0G} {E:List (Nat×Value)} {X:List a0E} {a:Act} {w:World} {N:Act→World→Prop} (hok:Ok c ops env Js) (hu:Upd Js S S' p) (hpx:PX Js S E X) (hh:b0J c (env++E) (L++X) a w) (hK:Sat w K)
 (h: ∀E' X' a' w',PX Js S' E' X'→b0J c (env++E') (L++X') a' w'→Sat w' K→N a' w'):wpOp c.P ops Q p.j N a w:=by
 obtain⟨hf,ho,hal⟩:=hok;have hpm:=hu.mem;obtain⟨oj,hi,hd,hlt,hrun⟩:=hal p hpm;have henv: ∀t v,c0E env t=some v→c0E (env++E) t=some v:=fun t v ht=>by rw[p0W,ht];rfl
 have h0:b0J c p.e0 [] a w:=⟨hh.size,fun t v ht=>hh.slots t v (henv t v ((ho p hpm).le t v ht)),hh.defers,Sat.nil w,hh.like⟩;obtain⟨hw,hr⟩:=hrun a w h0;obtain⟨E',X',h1,h2,h3⟩:=PX.upd hu (env:=env) w.heap.size hf hpx;unfold wpOp;simp only[hi,hw,if_true];left;unfold Oper.wp;rw[hr];simp only[Oper.upon,hd];have hlt':p.d<c.n:=Nat.blt_eq▸hlt;refine h E' X' _ _ h1 ⟨by simp[Act.put,hh.size],?_,by rw[k1W];exact hh.defers,?_,hh.like.alloc _⟩ ?_
 ·intro t u ht;rw[p0W]at ht;have hne:c0E env p.d=none:=Frs.env hf hpm;cases he:c0E env t with
  |some u'=>
   rw[he]at ht;have htp:t≠p.d:=fun e=>by rw[e,hne]at he;cases he
   have:u'=u:=by simpa using ht
   subst this;simp only[Act.put,Array.getElem?_setIfInBounds];rw[if_neg (fun e=>htp e.symm)];exact hh.slots t u' (henv t u' he)
  |none=>
   rw[he]at ht;simp only[Option.none_or]at ht;rcases h2 t u ht with ⟨rfl,rfl⟩| ⟨hne',hE⟩
   ·simp[Act.put,hh.size,hlt']
   ·simp only[Act.put,Array.getElem?_setIfInBounds];rw[if_neg (fun e=>hne' e.symm)];exact hh.slots t u (by rw[p0W,he,hE];rfl)
 ·have hs:=hh.sat.alloc p.o;exact hs.perm (((List.Perm.append_left L h3).trans List.perm_middle).symm)
 ·exact(hK.alloc p.o).tail
theorem t2E (h:KW c Q .normal env L):OMf c ops Q K [] .done env L:=by
 intro l0 S E X a w hB _ _ _ hpx hh _;simp only[k0V,Bool.and_eq_true,List.isEmpty_iff]at hB;cases S with
 |cons s S=>cases s<;>exact hpx.elim
 |nil=>
  obtain⟨rfl,rfl⟩:=hpx;simp only[List.append_nil]at hh;exact wpAnyH_done hB.2 (h a w hh) _
theorem Ok.put {v:Value} (h:Ok c ops env Js) (hd:(Js.all fun p=> !Nat.beq p.d d&&(c0E p.e0 d).isNone)=true):Ok c ops ((d,v)::env) Js:=by
 obtain⟨hf,ho,ha⟩:=h;have hd':=List.all_eq_true.1 hd;refine⟨?_,fun p hp=> ?_,ha⟩
 ·clear ho ha hd
  induction Js with
  |nil=>rfl
  |cons p Js ih=>
   simp only[Frs,Bool.and_eq_true,Option.isNone_iff_eq_none]at hf ⊢;refine⟨?_,hf.2.1,hf.2.2.1,ih hf.2.2.2 (fun q hq=>hd' q (by simp[hq]))⟩;have:=hd' p (by simp);simp only[Bool.and_eq_true,Bool.not_eq_true']at this;have hne:Nat.beq d p.d=false:=by
    cases hb:Nat.beq d p.d with
    |false=>rfl
    |true=>have e:=Nat.eq_of_beq_eq_true hb;rw[e]at this;simp at this
   simp only[c0E,hne];exact hf.1
 ·have hn:=hd' p hp;simp only[Bool.and_eq_true,Option.isNone_iff_eq_none]at hn;have hs:=ho p hp;have hl: ∀e0:List (Nat×Value),Sub env e0→c0E e0 d=none→Sub ((d,v)::env) e0:=by
   intro e0
   induction e0 with
   |nil=>intro _ _;exact Sub.nil
   |cons x e0 ih=>
    obtain⟨k,u⟩:=x;intro h1 h2;simp only[c0E]at h2;cases hb:Nat.beq k d with
    |true=>rw[hb]at h2;cases h2
    |false=>
     rw[hb]at h2;refine Sub.cons ?_ (ih h1.2 h2);simp only[c0E];cases hb2:Nat.beq d k with
     |true=>have e:=Nat.eq_of_beq_eq_true hb2;rw[e]at hb;simp at hb
     |false=>exact h1.1
  exact hl p.e0 hs hn.2
theorem i1K {o:Oper} {v:Value} (hi:ops[i]? =some o) (hod:o.dst=some d) (hy: ∀a w,b0J c env K a w→YieldsIf c.P ops (q0M c K) o v a) (h:OMf c ops Q K Js plan ((d,v)::env) L) (hfr:(Js.all fun p=> !Nat.beq p.d d&&(c0E p.e0 d).isNone)=true) (hd:Nat.blt d c.n=true):
 OMf c ops Q K Js (.soft i plan) env L:=by
 intro l0 S E X a w hB hs hQ hok hpx hh hK;simp only[k0V,Bool.and_eq_true]at hB;obtain⟨un,h1,_⟩:=s0B Js S l0 [] (PX.length hpx) hB.1;simp only[Bool.and_eq_true]at h1;have hh':b0J c env K a w:=⟨hh.size,fun t v ht=>hh.slots t v (by rw[p0W,ht];rfl),hh.defers,hK,hh.like⟩;have e:(g0N.soft i plan).len+cnt S=(plan.len+cnt S)+1:=by simp only[g0N.len];omega
 rw[e];refine wpAnyH_take (v:=v) hi hs h1.1 h1.2 (fun ch a w=>hQ ch a _ _ w) (hy a w hh') ⟨hK,hh.like⟩ ?_;rw[hod,←k1X];exact h _ S E X _ w hB.2 hs hQ (hok.put hfr) hpx (hh.put d v hd) hK
theorem h0L {v:Value} (hi:ops[i]? =some ⟨some d,op,ty,pos,af,none⟩) (hy:a0P c ⟨some d,op,ty,pos,af,none⟩ env K v) (h:OMf c ops Q K Js plan ((d,v)::env) L) (hfr:(Js.all fun p=> !Nat.beq p.d d&&(c0E p.e0 d).isNone)=true:=by rfl) (hd:Nat.blt d c.n=true:=by rfl):OMf c ops Q K Js (.soft i plan) env L:=
 i1K hi rfl (fun a _ hh=> .inl ⟨rfl,fun w' hk=>hy a w' ⟨hh.size,hh.slots,hh.defers,hk.1,hk.2⟩⟩) h hfr hd
theorem x2E {v:Value} {gd:Nat×Bool} (hi:ops[i]? =some ⟨some d,op,ty,pos,af,some gd⟩) (hy:a0P c ⟨some d,op,ty,pos,af,some gd⟩ env K v)
 (hw: ∀a w,b0J c env K a w→Region.wanted ⟨some d,op,ty,pos,af,some gd⟩ (yielded ops a.tmps)=true) (h:OMf c ops Q K Js plan ((d,v)::env) L) (hfr:(Js.all fun p=> !Nat.beq p.d d&&(c0E p.e0 d).isNone)=true:=by rfl) (hd:Nat.blt d c.n=true:=by rfl):OMf c ops Q K Js (.soft i plan) env L:=
 i1K hi rfl (fun a w hh=> .inl ⟨hw a w hh,fun w' hk=>hy a w' ⟨hh.size,hh.slots,hh.defers,hk.1,hk.2⟩⟩) h hfr hd
theorem n2S {o:Oper} (hi:ops[i]? =some o) (hod:o.dst=some d) (hw: ∀a w,b0J c env K a w→Region.wanted o (yielded ops a.tmps)=false) (h:OMf c ops Q K Js plan ((d,undef)::env) L) (hfr:(Js.all fun p=> !Nat.beq p.d d&&(c0E p.e0 d).isNone)=true:=by rfl) (hd:Nat.blt d c.n=true:=by rfl):
 OMf c ops Q K Js (.soft i plan) env L:=
 i1K hi hod (fun a w hh=> .inr ⟨hw a w hh,rfl⟩) h hfr hd
def KMf (c:Cx) (ops:Array Oper) (Q:Exit→Act→World→Prop) (K:List a0E) (Js:List p0G) (plan:g0N) (E:List (Nat×Value)) (F:a0E) (a:Act) (w:World):Prop:=
 q0M c K w∧ ∃env' L',b0J c (env'++E) (L'++ [F]) a w∧Ok c ops env' Js∧OMf c ops Q K Js plan env' L'
inductive Tl (E:List (Nat×Value)):List (Nat×Value)→List (Nat×Value)→Prop
 |nil:Tl E E []
 |cons {x l m} (h:Tl E l m):Tl E (x::l) (x::m)
theorem Tl.eq {E l m} (h:Tl E l m):l=m++E:=by
 induction h with
 |nil=>rfl
 |cons _ ih=>rw[ih];rfl
theorem n2T {E env'':List (Nat×Value)} {F:a0E} {L'' R:List a0E} (hE:Tl E env'' env) (hF:Fnd L'' F L) (hK:b0A L'' K R) (hok:Ok c ops env Js) (h:OMf c ops Q K Js plan env L):KW c (Exit.then (KMf c ops Q K Js plan E F) Q) .normal env'' L'':=by
 intro a w hh;have hs:Sat w K:=((hh.sat.perm hK).perm List.perm_append_comm).drop;refine⟨⟨hs,hh.like⟩,env,L,?_,hok,h⟩;rw[←hE.eq];exact⟨hh.size,hh.slots,hh.defers,(hF.sat hh.sat).perm (List.perm_append_comm (l₁:= [F]) (l₂:=L)),hh.like⟩
theorem z2M {o:Oper} {N:Act→World→Prop} {env:List (Nat×Value)} {L:List a0E} {a:Act} {w:World} (hi:ops[i]? =some o) (h:OW c ops (Exit.then N Q) [o] env L) (hh:b0J c env L a w):wpOp c.P ops Q i N a w:=by
 have hw:=h a w hh;unfold wpOp;simp only[hi];unfold wpList at hw;split
 ·rename_i hwant;rw[if_pos hwant]at hw;rcases hw with hw| ⟨ha,hl⟩
  ·left;rw[n1N]at hw;exact Oper.wp_mono (fun _ _ h=>h) hw
  ·exact .inr ⟨ha,hl⟩
 ·rename_i hwant;rw[if_neg hwant]at hw;exact hw
theorem b0Y {o:Oper} (hi:ops[i]? =some o) (h:Ok c ops env Js→ ∀E F,OW c ops (Exit.then (KMf c ops Q K Js plan E F) Q) [o] (env++E) (F::L)):OMf c ops Q K Js (.hard i plan) env L:=by
 intro l0;suffices H: ∀n S E X a w,cnt S=n→k0V ops (.hard i plan) (Js.map (·.j)) l0=true→Region.noSelect ops=true→b0T Q→Ok c ops env Js→PX Js S E X→b0J c (env++E) (L++X) a w→Sat w K→
  wpAnyH c.P .any ops Q (q0M c K) ((g0N.hard i plan).len+cnt S) (ap Js S l0) a w from fun S E X a w=>H _ S E X a w rfl
 intro n
 induction n using Nat.strongRecOn with
 |_ n ih=>
  intro S E X a w hn hB hs hQ hok hpx hh hK;have hB':=hB;simp only[k0V,Bool.and_eq_true]at hB;obtain⟨un,h1,h2⟩:=s0B Js S l0 [] (PX.length hpx) hB.1;simp only[Bool.and_eq_true]at h1;have e:(g0N.hard i plan).len+cnt S=(plan.len+cnt S)+1:=by simp only[g0N.len];omega
  rw[e];refine wpAnyH_all (rs:=Region.ready .any ops (ap Js S l0)) rfl (fun h0=>by rw[h0]at h1;simp at h1) ?_;intro r hr;have h3:=List.all_eq_true.1 h1.2 r hr;simp only[Bool.or_eq_true]at h3;rcases h3 with h3|h3
  ·have:r=i:=Nat.eq_of_beq_eq_true h3;subst this;have hst:b0J c (env++E) (b0E X::L) a w:=⟨hh.size,hh.slots,hh.defers,b0M.2 (hh.sat.perm List.perm_append_comm),hh.like⟩;refine wpOp_mono ?_ (z2M hi (h hok E (b0E X)) hst);rintro a' w' ⟨hk,env',L',hh',hok',hom⟩;refine⟨hk,?_⟩;rw[←k1X];refine hom _ S E X a' w' hB.2 hs hQ hok' hpx ⟨hh'.size,hh'.slots,hh'.defers,?_,hh'.like⟩ hk.1;have:=hh'.sat.perm (List.perm_append_comm (l₁:=L') (l₂:= [b0E X]));exact(b0M.1 this).perm List.perm_append_comm
  ·have h4:=h2 r (by simpa using h3);rcases h4 with h4| ⟨p,S',hu,rfl⟩
   ·cases h4
   ·refine e1B hok hu hpx hh hK (fun E' X' a' w' g1 g2 g3=>⟨⟨g3,g2.like⟩,?_⟩);have hc:=hu.cnt;have:=ih (cnt S') (by omega) S' E' X' a' w' rfl hB' hs hQ hok g1 g2 g3;rw[hu.ap]at this;have e2:(g0N.hard i plan).len+cnt S'=plan.len+cnt S:=by simp only[g0N.len];omega
    rwa [e2]at this
theorem p1K {p:p0G} (hal:AL c ops p) (he:Sub env p.e0) (hfr:((c0E env p.d).isNone&&((Js.all fun q=> !Nat.beq q.d p.d&&(c0E q.e0 p.d).isNone&&(c0E p.e0 q.d).isNone)&&(c0E p.e0 p.d).isNone))=true) (h:OMf c ops Q K (p::Js) plan env L):OMf c ops Q K Js (.float p.j plan) env L:=by
 intro l0 S E X a w hB hs hQ hok hpx hh hK;simp only[Bool.and_eq_true]at hfr;have hok':Ok c ops env (p::Js):=by
  refine⟨?_,fun q hq=> ?_,fun q hq=> ?_⟩
  ·simp only[Frs,Bool.and_eq_true];exact⟨hfr.1,hfr.2.1,hfr.2.2,hok.1⟩
  ·rcases List.mem_cons.1 hq with rfl|hq
   ·exact he
   ·exact hok.2.1 q hq
  ·rcases List.mem_cons.1 hq with rfl|hq
   ·exact hal
   ·exact hok.2.2 q hq
 have:=h l0 (false::S) E X a w (by simpa [k0V] using hB) hs hQ hok' hpx hh hK;have e:plan.len+cnt (false::S)=(g0N.float p.j plan).len+cnt S:=by simp only[g0N.len,cnt];omega
 rw[e]at this;simpa only[ap] using this
theorem l0Y {p:p0G} (h: ∀b,OMf c ops Q K Js plan ((p.d,p.v b)::env) (pts b p.o::L)):OMf c ops Q K (p::Js) (.res plan) env L:=by
 intro l0;have base: ∀S E X a w,k0V ops (.res plan) ((p::Js).map (·.j)) l0=true→Region.noSelect ops=true→b0T Q→Ok c ops env (p::Js)→PX (p::Js) (true::S) E X→b0J c (env++E) (L++X) a w→Sat w K→
  wpAnyH c.P .any ops Q (q0M c K) (plan.len+cnt S) (ap Js S (l0.setIfInBounds p.j true)) a w:=by
  intro S E X a w hB hs hQ hok hpx hh hK;obtain⟨b,E',X',rfl,rfl,hp⟩:=hpx;simp only[List.map_cons,k0V,Bool.and_eq_true]at hB;have hf:=hok.1;simp only[Frs,Bool.and_eq_true,Option.isNone_iff_eq_none]at hf;have hok1:Ok c ops env Js:=⟨hf.2.2.2,fun q hq=>hok.2.1 q (by simp[hq]),fun q hq=>hok.2.2 q (by simp[hq])⟩;have hok2:Ok c ops ((p.d,p.v b)::env) Js:=hok1.put (by
   refine List.all_eq_true.2 fun q hq=> ?_;have:=List.all_eq_true.1 hf.2.1 q hq;simp only[Bool.and_eq_true]at this ⊢;exact⟨this.1.1,this.1.2⟩)
  refine h b _ S E' X' a w hB.2 hs hQ hok2 hp ⟨hh.size,?_,hh.defers,hh.sat.perm List.perm_middle,hh.like⟩ hK;intro t u ht;refine hh.slots t u ?_;rw[p0W];simp only[List.cons_append,c0E]at ht ⊢;cases hb:Nat.beq p.d t with
  |true=>
   have e:=Nat.eq_of_beq_eq_true hb;rw[hb]at ht;rw[←e,hf.1];simpa using ht
  |false=>
   rw[hb]at ht;simpa [p0W] using ht
 suffices H: ∀n S E X a w,cnt S=n→k0V ops (.res plan) ((p::Js).map (·.j)) l0=true→Region.noSelect ops=true→b0T Q→Ok c ops env (p::Js)→PX Js S E X→b0J c (env++E) (L++X) a w→Sat w K→
  wpAnyH c.P .any ops Q (q0M c K) (plan.len+cnt S+1) (ap Js S l0) a w by
  intro S E X a w hB hs hQ hok hpx hh hK;cases S with
  |nil=>exact hpx.elim
  |cons s S=>
   cases s with
   |true=>exact base S E X a w hB hs hQ hok hpx hh hK
   |false=>exact H _ S E X a w rfl hB hs hQ hok hpx hh hK
 intro n
 induction n using Nat.strongRecOn with
 |_ n ih=>
  intro S E X a w hn hB hs hQ hok hpx hh hK;have hB':=hB;simp only[List.map_cons,k0V,Bool.and_eq_true]at hB;obtain⟨un,h1,h2⟩:=s0B Js S l0 [] (PX.length hpx) hB.1;simp only[Bool.and_eq_true]at h1;refine wpAnyH_all (rs:=Region.ready .any ops (ap Js S l0)) rfl (fun h0=>by rw[h0]at h1;simp at h1) ?_;intro r hr;have h3:=List.all_eq_true.1 h1.2 r hr;simp only[Bool.or_eq_true]at h3;rcases h3 with h3|h3
  ·have:r=p.j:=Nat.eq_of_beq_eq_true h3;subst this;refine e1B (Js:=p::Js) (S:=false::S) hok Upd.here hpx hh hK (fun E' X' a' w' g1 g2 g3=>⟨⟨g3,g2.like⟩,?_⟩);rw[←k1X];exact base S E' X' a' w' hB' hs hQ hok g1 g2 g3
  ·have h4:=h2 r (by simpa using h3);rcases h4 with h4| ⟨q,S',hu,rfl⟩
   ·cases h4
   ·refine e1B (Js:=p::Js) (S:=false::S) hok hu.there hpx hh hK (fun E' X' a' w' g1 g2 g3=>⟨⟨g3,g2.like⟩,?_⟩);have hc:=hu.cnt;have:=ih (cnt S') (by omega) S' E' X' a' w' rfl hB' hs hQ hok g1 g2 g3;rw[hu.ap]at this;have e2:plan.len+cnt S'+1=plan.len+cnt S:=by omega
    rwa [e2]at this
theorem n2U {id:Nat} {l:List Oper} {R:List a0E} (plan:g0N) (K:List a0E) (hm:c.P.follows .mixedOrders=true)
 (hB:(Region.noSelect l.toArray&&(Nat.beq plan.len l.length&&k0V l.toArray plan [] (Array.replicate l.length false)))=true) (hQ:b0T Q) (hK:b0A L K R) (h:OMf c l.toArray Q K [] plan env L):CW c (.region id l.toArray true) Q env L:=by
 intro a w hh;simp only[Bool.and_eq_true]at hB;have hh':=hh.drew;have hs:Sat w.drew K:=((hh'.sat.perm hK).perm List.perm_append_comm).drop;have h1:=h _ [] [] [] a w.drew hB.2.2 hB.1 hQ ⟨rfl,(fun p hp=>by cases hp),fun p hp=>by cases hp⟩ ⟨rfl,rfl⟩ (by simpa using hh') hs;refine wp_region_held (S:=q0M c K) hm ?_;have e:plan.len=l.toArray.size:=by simpa using Nat.eq_of_beq_eq_true hB.2.1
 have e2:Array.replicate plan.len false=Array.replicate l.length false:=by rw[Nat.eq_of_beq_eq_true hB.2.1]
 simp only[cnt,Nat.add_zero,ap]at h1;rw[←e,e2];exact h1
end
end
end Go.Sl
namespace Go.Sl
open Go.BigFrame
section
def b0I (e:TypeId) (size:Nat) (v:Value) (n:Nat) (xs:List Value):a0E:=fun l=>
 xs.length=n*size∧((v= .slice none 0 0∧n=0∧l= [])∨
  ∃(g cap:Nat) (cur:List Value),v= .slice (some ⟨g,0,none⟩) n cap∧n≤cap∧cap≤maxLen∧cur.length=cap*size∧cur.take (n*size)=xs∧l= [(g,.cells cur.toArray e (0,0))])
theorem s1O (e:TypeId) (size:Nat) {w:World} {L:List a0E} (h:Sat w L):Sat w (b0I e size (.slice none 0 0) 0 []::L):=by
 obtain⟨l,h1,h2,h3⟩:=h;exact⟨l,⟨[],l,rfl,⟨by simp,.inl ⟨rfl,rfl,rfl⟩⟩,h1⟩,h2,h3⟩
theorem f0O {e:TypeId} {size:Nat} {v:Value} {n:Nat} {xs:List Value} {w:World} {L:List a0E} (h:Sat w (b0I e size v n xs::L)):
 xs.length=n*size∧((v= .slice none 0 0∧n=0∧Sat w L)∨
  ∃(g cap:Nat) (cur:List Value),v= .slice (some ⟨g,0,none⟩) n cap∧n≤cap∧cap≤maxLen∧cur.length=cap*size∧cur.take (n*size)=xs∧Sat w (pts g (.cells cur.toArray e (0,0))::L)):=by
 obtain⟨l,⟨l1,l2,rfl,⟨hl,h1⟩,h2⟩,hn,hh⟩:=h;refine⟨hl,?_⟩;rcases h1 with ⟨rfl,rfl,rfl⟩| ⟨g,cap,cur,rfl,a1,a2,a3,a4,rfl⟩
 ·exact .inl ⟨rfl,rfl,l2,h2,hn,hh⟩
 ·exact .inr ⟨g,cap,cur,rfl,a1,a2,a3,a4,_,⟨_,l2,rfl,rfl,h2⟩,hn,hh⟩
theorem r0J {e:TypeId} {size:Nat} {n g cap:Nat} {cur xs:List Value} {w:World} {L:List a0E} (h:Sat w (pts g (.cells cur.toArray e (0,0))::L)) (h1:n≤cap) (h2:cap≤maxLen) (h3:cur.length=cap*size)
 (h4:cur.take (n*size)=xs):Sat w (b0I e size (.slice (some ⟨g,0,none⟩) n cap) n xs::L):=by
 refine h.mono_head fun l hl=>⟨?_,.inr ⟨g,cap,cur,rfl,h1,h2,h3,h4,hl⟩⟩;rw[←h4,List.length_take,h3];exact Nat.min_eq_left (Nat.mul_le_mul_right _ h1)
theorem n1O {e:TypeId} {size:Nat} {v:Value} {n:Nat} {xs:List Value} {w:World} {L:List a0E} (h:Sat w (b0I e size v n xs::L)):v.oneCell'=true:=by
 obtain⟨_,hc⟩:=f0O h;rcases hc with ⟨rfl,_⟩| ⟨g,cap,cur,rfl,_⟩<;>rfl
def r0K (P:Program) (e n:Nat):Bool:=match P.info? e with|some i=>i.bytes == n|none=>false
section
variable {c:Cx} {ops:Array Oper} {Q:Exit→Act→World→Prop} {rest:List Oper} {env:List (Nat×Value)} {L M:List a0E}
 {d:Tmp} {ty:TypeId} {pos:String} {af:Array Edge}
theorem d0E {s x:Operand} {t tx e size bytes n m:Nat} {v y z:Value} {xs news:List Value} (ht:c0X c.P t e size=true) (hby:r0K c.P e bytes=true)
 (hz:h0D c.P e=some z) (hzs:z.cells.size=size) (hs:evo env s=some v) (hx:evo env x=some y)
 (hL:Fnd L (b0I e size v n xs) M) (hsrc: ∀a w,b0J c env L a w→Src c.P size tx y m news w) (h63:n+m≤maxLen) (hb:(n+m)*bytes≤140737488355328)
 (h: ∀v',v'.oneCell'=true→OW c ops Q rest ((d,v')::env) (b0I e size v' (n+m) (xs++news)::M)) (hd:Nat.blt d c.n=true:=by rfl):
 OW c ops Q (⟨some d,.call {callee:= .builtin .append,args:= #[s,x],argTypes:= #[t,tx]},ty,pos,af,none⟩::rest) env L:=by
 intro a w hh;simp only[c0X,Bool.and_eq_true]at ht;obtain⟨ht1,ht2⟩:=ht;split at ht1
 case h_2=>cases ht1
 rename_i e' hu;simp only[beq_iff_eq]at ht1;subst ht1;unfold r0K at hby;split at ht2
 case h_2=>cases ht2
 rename_i i hi;unfold h0D at hz;rw[hi]at hby hz;simp only[beq_iff_eq]at ht2 hby;subst ht2;subst hby;have hsr:=hsrc a w hh;have hsrD:=hsrc a w.drew hh.drew;have hsat:=hL.sat hh.sat;obtain⟨hlen,hcase⟩:=f0O hsat;refine wpList_plain rfl fun K hK=> ?_;have hgoal: ∃v' w',(Builtin.append_ #[t,tx] ty #[v,y]).run c.P w= .ok v' w'∧Sat w' (b0I e' i.size v' (n+m) (xs++news)::M)∧d0S w w':=by
  have hnl:news.length=m*i.size:=hsr.newsLen;have hlen':(xs++news).length=(n+m)*i.size:=by rw[List.length_append,hlen,hnl,Nat.add_mul]
  have grown: ∀(old:Nat),old<n+m→Sat w M→
   Sat (w.drew.alloc (.cells ((xs++news).toArray++Builtin.zeroCells z.cells (grownCap w (n+m) old e'- (n+m))) e')) (b0I e' i.size (.slice (some ⟨w.heap.size,0,none⟩) (n+m) (grownCap w (n+m) old e')) (n+m) (xs++news)::M):=by
   intro old ho hM;have hge:=grownCap_ge w (n+m) old e';have h1:=(hM.drew).alloc (.cells ((xs++news).toArray++Builtin.zeroCells z.cells (grownCap w (n+m) old e'- (n+m))) e');have h2:((xs++news).toArray++Builtin.zeroCells z.cells (grownCap w (n+m) old e'- (n+m)))=((xs++news)++(Builtin.zeroCells z.cells (grownCap w (n+m) old e'- (n+m))).toList).toArray:=by
    apply Array.ext';simp
   rw[h2]at h1 ⊢;refine r0J h1 hge (grownCap_le_maxLen w (n+m) old e' h63) ?_ ?_
   ·rw[List.length_append,hlen',Array.length_toList,size_zeroCells,hzs,←Nat.add_mul];congr 1;omega
   ·rw[←hlen'];exact List.take_left
  rcases hcase with ⟨rfl,rfl,hM⟩| ⟨g,cap,cur,rfl,hnc,hcm,hcl,htake,hM⟩
  ·have hxs:xs= []:=List.eq_nil_of_length_eq_zero (by simpa using hlen);subst hxs;by_cases hm:m=0
   ·subst hm;have hn0:news= []:=List.eq_nil_of_length_eq_zero (by simpa using hnl);subst hn0;refine⟨.slice none 0 0,w,?_,s1O _ _ hM,d0S.refl w⟩;rcases hsr.kind with ⟨e2,hk⟩|hk<;>
     simp[Builtin.append_,run_underlying hu,run_underlying hk,sizeOf,typeInfo,hi,hsr.len,hsr.cells]
   ·have hr:=run_append_grow_src (P:=c.P) (w:=w) t tx ty e' i z hu hi hz none 0 0 [] (by simp[Builtin.firstCells]) y m news hsr (by omega) (by simp only[maxLen]at h63;omega) (growslice_fits (by omega) hb);simp only[Nat.zero_add,List.nil_append]at hr grown ⊢;exact⟨_,_,hr,grown 0 (by omega) hM,(d0S.refl w).drew.alloc _⟩
  ·by_cases hroom:n+m≤cap
   ·have hfit:n*i.size+0+news.length≤cur.toArray.size:=by
     rw[List.size_toArray,hnl,hcl,Nat.add_zero,←Nat.add_mul];exact Nat.mul_le_mul_right _ hroom
    have hst:=n0T (P:=c.P) news (n*i.size) 0 cur.toArray w hM.pts hfit hsr.one;simp only[Nat.add_zero]at hst;refine⟨.slice (some ⟨g,0,none⟩) (n+m) cap,_,?_,?_,(d0S.refl w).put g (.cells (cur.toArray.extract 0 (n*i.size)++news.toArray++cur.toArray.extract (n*i.size+news.length) cur.toArray.size) e' (0,0))⟩
    ·rcases hsr.kind with ⟨e2,hk⟩|hk<;>
      simp[Builtin.append_,run_underlying hu,run_underlying hk,sizeOf,typeInfo,hi,hsr.len,hsr.cells,hroom,j0C,hst]
    ·have hcl':n*i.size+news.length≤cur.length:=by simpa using hfit
     have h2:(cur.toArray.extract 0 (n*i.size)++news.toArray++cur.toArray.extract (n*i.size+news.length) cur.toArray.size)=(cur.take (n*i.size)++news++cur.drop (n*i.size+news.length)).toArray:=by
      apply Array.ext';simp;rw[List.take_of_length_le (by simp)]
     rw[h2];refine r0J hM.put hroom hcm ?_ ?_
     ·simp only[List.length_append,List.length_take,List.length_drop];omega
     ·rw[htake,←hlen'];exact List.take_left
   ·have hold:(Builtin.firstCells i.size n (.slice (some ⟨g,0,none⟩) n cap)).run c.P w.drew= .ok xs.toArray w.drew:=by
     have h1:=g0U (P:=c.P) (w:=w.drew) (b:=g) (o:=0) (n:=n*i.size) (cs:=cur.toArray) (e:=e') (fr:=(0,0)) hM.drew.pts (by
      rw[List.size_toArray,hcl,Nat.zero_add];exact Nat.mul_le_mul_right _ hnc)
     have h2:cur.toArray.extract 0 (0+n*i.size)=xs.toArray:=by apply Array.ext';simp[htake]
     simp only[Builtin.firstCells];rw[h1,h2]
    have hr:=run_append_grow_src (P:=c.P) (w:=w) t tx ty e' i z hu hi hz (some ⟨g,0,none⟩) n cap xs hold y m news hsr (by omega) (by simp only[maxLen]at h63;omega) (growslice_fits (by omega) hb);exact⟨_,_,hr,grown cap (by omega) hM.tail,(d0S.refl w).drew.alloc _⟩
 obtain⟨v',w',hr,hs',hl⟩:=hgoal;unfold Oper.wp;rw[execOp_builtin,builtin_append];have e1:(#[s,x]:Array Operand).map a.eval= #[v,y]:=by simp[hh.eval hs,hh.eval hx]
 rw[e1];simp only[Sem.run_bind,hr,Result.andThen_ok,Sem.run_pure,Oper.upon];exact hK _ _ (h v' (n1O hs') _ _ ((⟨hh.size,hh.slots,hh.defers,hs',hh.like.trans hl⟩:b0J c env _ a w').put d v' hd))
end
end
end Go.Sl

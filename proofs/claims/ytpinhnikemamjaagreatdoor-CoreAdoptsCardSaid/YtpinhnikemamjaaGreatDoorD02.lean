/- Part of the proof; no statement of its own. -/
import Derived.Test.YtpinhnikemamjaaGreatDoorD01
import Derived.Calls
import Derived.StillTail
import Derived.OrdersHeld
set_option linter.all false
set_option maxRecDepth 4000
set_option maxHeartbeats 4000000
namespace Go.Sl
section
def OW (c:Cx) (ops:Array Oper) (Q:Exit→Act→World→Prop) (l:List Oper) (env:List (Nat×Value)) (L:List a0E):Prop:=
 ∀a w,b0J c env L a w→wpList c.P ops Q l a w
def CW (c:Cx) (b:Code) (Q:Exit→Act→World→Prop) (env:List (Nat×Value)) (L:List a0E):Prop:=
 ∀a w,b0J c env L a w→b.wp c.P Q a w
def KW (c:Cx) (Q:Exit→Act→World→Prop) (e:Exit) (env:List (Nat×Value)) (L:List a0E):Prop:=
 ∀a w,b0J c env L a w→Q e a w
section
variable {c:Cx} {ops:Array Oper} {Q:Exit→Act→World→Prop} {rest:List Oper} {env:List (Nat×Value)} {L:List a0E}
 {d:Tmp} {op:Op} {ty:TypeId} {pos:String} {af:Array Edge}
theorem a0D {v:Value} (f:a0P c ⟨some d,op,ty,pos,af,none⟩ env L v) (h:OW c ops Q rest ((d,v)::env) L) (hd:Nat.blt d c.n=true:=by rfl):OW c ops Q (⟨some d,op,ty,pos,af,none⟩::rest) env L:=by
 intro a w b;refine wpList_plain rfl fun K e=> ?_;unfold Oper.wp;rw[f a w b];exact e _ _ (h _ _ (b.put d v hd))
theorem b0Z {v:Value} {gd:Nat×Bool} (g:a0P c ⟨some d,op,ty,pos,af,some gd⟩ env L v) (f: ∀a w,b0J c env L a w→Region.wanted ⟨some d,op,ty,pos,af,some gd⟩ (yielded ops a.tmps)=true)
 (h:OW c ops Q rest ((d,v)::env) L) (hd:Nat.blt d c.n=true:=by rfl):OW c ops Q (⟨some d,op,ty,pos,af,some gd⟩::rest) env L:=by
 intro a w b;refine wpList_step fun K e=> ?_;rw[if_pos (f a w b)];unfold Oper.wp;rw[g a w b];exact e _ _ (h _ _ (b.put d v hd))
theorem c0D {o:Oper} (hd:o.dst=some d) (g: ∀a w,b0J c env L a w→Region.wanted o (yielded ops a.tmps)=false)
 (h:OW c ops Q rest ((d,undef)::env) L) (b:Nat.blt d c.n=true:=by rfl):OW c ops Q (o::rest) env L:=by
 intro a w e;refine wpList_step fun K f=> ?_;rw[if_neg (by rw[g a w e];simp),hd];exact f _ _ (h _ _ (e.put d undef b))
theorem p0V {o:Oper} {j:Nat} {want:Bool} {t:Nat} {b:Bool} {a:Act} {w:World} (e:o.guard=some (j,want)) (g:(ops[j]?).bind (·.dst)=some t) (h:c0E env t=some (.bool b)) (f:b0J c env L a w):
 Region.wanted o (yielded ops a.tmps)=(b == want):=by
 have d:=f.slots t _ h;unfold Region.wanted;rw[e];simp only[yielded,g,d,Option.bind_some];cases b<;>cases want<;>rfl
theorem o0V {o:Oper} (f: ∀a w,b0J c env L a w→Region.wanted o (yielded ops a.tmps)=true) (h:OW c ops Q ({o with guard:=none} ::rest) env L):OW c ops Q (o::rest) env L:=by
 intro a w d;have b:=h a w d;have e:=f a w d;unfold wpList at b ⊢;rw[if_pos e];rw[if_pos (by rfl)]at b;exact b
theorem w2Z (h:KW c Q .normal env L):OW c ops Q [] env L:=fun a w b=>wpList_nil (h a w b)
theorem n0T {P:Program} {b:Nat} {e:TypeId} : ∀(vs:List Value) (o i:Nat) (cs:Array Value) (w:World),w.heap[b]? =some (.cells cs e (0,0))→o+i+vs.length≤cs.size→(∀v∈vs,v.oneCell'=true)→
 (storeCells ⟨b,o,none⟩ vs i).run P w= .ok () (put w b (.cells (cs.extract 0 (o+i)++vs.toArray++cs.extract (o+i+vs.length) cs.size) e (0,0))):=by
 intro vs
 induction vs with
 |nil=>
  intro o i cs w a l _;have hb:=r0F a;simp only[storeCells,Sem.run_pure,List.length_nil,Nat.add_zero];congr 1;have n:cs.extract 0 (o+i)++(#[]:Array Value)++cs.extract (o+i) cs.size=cs:=by
   apply Array.ext
   ·simp at l ⊢;omega
   ·intro k c g;simp at c;simp
  rw[n];unfold put;have:w.heap.setIfInBounds b (.cells cs e (0,0))=w.heap:=by
   apply Array.ext
   ·simp
   ·intro k c g;rw[Array.getElem_setIfInBounds (by simpa using c)];split
    ·rename_i d;subst d;rw[Array.getElem?_eq_getElem hb]at a;exact(Option.some.inj a).symm
    ·rfl
  rw[this]
 |cons v vs ih=>
  intro o i cs w a l m;have hb:=r0F a;simp only[List.length_cons]at l;have h: ∃u,w.cell? ⟨b,o+i,none⟩=some u:=by
   refine⟨cs[o+i]'(by omega),?_⟩;simp[World.cell?,a]
  obtain⟨u,h⟩:=h;have p:w.frozen? ⟨b,o+i,none⟩=false:=by simp[World.frozen?,a]
  have f:w.setCell ⟨b,o+i,none⟩ v=put w b (.cells (cs.setIfInBounds (o+i) v) e (0,0)):=by
   unfold World.setCell put;congr 1;apply Array.ext
   ·simp
   ·intro k c g;simp at c;rw[Array.getElem_modify,Array.getElem_setIfInBounds (by simpa using c)];split
    ·rename_i d;subst d;rw[Array.getElem?_eq_getElem hb]at a;rw[Option.some.inj a];simp
    ·rfl
  have q:(store ((⟨b,o,none⟩:Addr).add i) v).run P w= .ok () (put w b (.cells (cs.setIfInBounds (o+i) v) e (0,0))):=by
   rw[j0C,run_store P w _ v _ (m v (by simp)),h];simp[p,f]
  simp only[storeCells,Sem.run_bind,q,Result.andThen_ok];have j:(put w b (.cells (cs.setIfInBounds (o+i) v) e (0,0))).heap[b]? =some (.cells (cs.setIfInBounds (o+i) v) e (0,0)):=by simp[put,hb]
  rw[ih o (i+1) _ _ j (by simp;omega) (fun x r=>m x (by simp[r]))];congr 1;unfold put;simp only[Array.setIfInBounds_setIfInBounds];congr 3;apply Array.ext
  ·simp;omega
  ·intro k c g;simp at c g;simp only[Array.getElem_append,Array.getElem_extract,Array.size_extract,Array.size_append,Array.size_setIfInBounds,List.getElem_toArray,List.size_toArray,List.length_cons];have t:min (o+(i+1)) cs.size-0=o+(i+1):=by omega
   have y:min (o+i) cs.size-0=o+i:=by omega
   simp only[t,y];by_cases k1:k<o+i
   ·simp only[k1,show k<o+(i+1) by omega,show k<o+(i+1)+vs.length by omega,show k<o+i+(vs.length+1) by omega,dite_true];rw[Array.getElem_setIfInBounds (by omega),if_neg (by omega)]
   ·by_cases s:k=o+i
    ·subst s;simp only[show o+i<o+(i+1) by omega,show o+i<o+(i+1)+vs.length by omega,show o+i<o+i+(vs.length+1) by omega,dite_true,Nat.lt_irrefl,dite_false,Nat.sub_self,List.getElem_cons_zero];rw[Array.getElem_setIfInBounds (by omega),if_pos (by omega)]
    ·by_cases k3:k<o+i+(vs.length+1)
     ·simp only[k1,k3,show k<o+(i+1)+vs.length by omega,show ¬k<o+(i+1) by omega,dite_true,dite_false];rw[List.getElem_cons,dif_neg (by omega)];congr 1
     ·simp only[k1,k3,show ¬k<o+(i+1)+vs.length by omega,show ¬k<o+(i+1) by omega,dite_false];rw[Array.getElem_setIfInBounds (by omega),if_neg (by omega)];congr 1;omega
def j0I (cs:Array Value) (o:Nat) (vs:Array Value):Array Value:=cs.extract 0 o++vs++cs.extract (o+vs.size) cs.size
theorem d2M (cs:List Value) (o:Nat) (v:Value) (a:o<cs.length):j0I cs.toArray o #[v]=(cs.set o v).toArray:=by
 unfold j0I;apply Array.ext
 ·simp;omega
 ·intro k b c;simp at b c;simp only[Array.getElem_append,Array.getElem_extract,Array.size_extract,Array.size_append,List.getElem_toArray,List.size_toArray,List.getElem_set];by_cases k1:k<o
  ·simp[k1,show k<o+1 by omega,show o≠k by omega,Nat.min_eq_left (Nat.le_of_lt a)]
  ·by_cases d:k=o
   ·subst d;simp[Nat.min_eq_left (Nat.le_of_lt a)]
   ·simp[show ¬k<o+1 by omega,show o≠k by omega,Nat.min_eq_left (Nat.le_of_lt a)];congr 1;omega
theorem x0P {P:Program} {t:TypeId} {b o:Nat} {cs:Array Value} {e:TypeId} {v:Value} {w:World} (a:x0O P t (v.cells.size)=true)
 (c:w.heap[b]? =some (.cells cs e (0,0))) (d:o+v.cells.size≤cs.size) (f: ∀x∈v.cells.toList,x.oneCell'=true):
 (storeVar t ⟨b,o,none⟩ v).run P w= .ok () (put w b (.cells (j0I cs o v.cells) e (0,0))):=by
 unfold x0O at a;split at a
 ·rename_i i hi;simp at a;have:=n0T (P:=P) v.cells.toList o 0 cs w c (by simpa using d) f;simp[storeVar,sizeOf,typeInfo,hi,a];simpa [j0I] using this
 ·cases a
theorem a0N {cs vs:Array Value} (h:cs.size=vs.size):j0I cs 0 vs=vs:=by
 unfold j0I;apply Array.ext';simp[h]
theorem a0I {cs:Array Value} {n:Nat} (h:cs.size=n):cs.extract 0 (0+n)=cs:=by
 apply Array.ext';simp[←h]
theorem d0T {t:TypeId} {x y:Operand} {b o:Nat} {cs:List Value} {e:TypeId} {v:Value} {M:List a0E} {cs':List Value}
 (n:x0O c.P t (1)=true) (p:evo env x=some (.pointer (some ⟨b,o,none⟩))) (q:evo env y=some v) (j:v.oneCell'=true)
 [hL:o0G L b (.cells cs.toArray e (0,0)) M] (m:Nat.blt o cs.length=true) (l:cs.set o v=cs')
 (h:OW c ops Q rest env (pts b (.cells cs'.toArray e (0,0))::M)):OW c ops Q (⟨none,.store t x y,ty,pos,af,none⟩::rest) env L:=by
 intro a w f;have g:o<cs.length:=Nat.blt_eq▸m;have d:=hL.sat f.sat;have c0R:v.cells= #[v]:=by cases v<;>first|rfl|simp[Value.oneCell']at j
 refine wpList_plain rfl fun K k=> ?_;unfold Oper.wp;have i:(storeVar t ⟨b,o,none⟩ v).run c.P w= .ok () (put w b (.cells cs'.toArray e (0,0))):=by
  rw[x0P (by rw[c0R];exact n) d.pts (by rw[c0R];exact g) (by rw[c0R];simpa using j),c0R,d2M cs o v g,l]
 simp only[execOp,f.eval p,f.eval q,Instr.storeAt,Instr.sureAddr,Sem.run_bind,Sem.run_pure,Result.andThen_ok,i,Oper.upon];exact k _ _ (h _ _ ⟨f.size,f.slots,f.defers,d.put,f.like.put _ _⟩)
theorem a0M {t n:Nat} {x y:Operand} {b o:Nat} {cs vs cs':Array Value} {e:TypeId} {M:List a0E}
 (p:x0O c.P t (n)=true) (q:evo env x=some (.pointer (some ⟨b,o,none⟩))) (r:evo env y=some (.agg vs)) (i:vs.size=n) (j: ∀x∈vs.toList,x.oneCell'=true)
 [hL:o0G L b (.cells cs e (0,0)) M] (m:o+vs.size≤cs.size) (l:j0I cs o vs=cs')
 (h:OW c ops Q rest env (pts b (.cells cs' e (0,0))::M)):OW c ops Q (⟨none,.store t x y,ty,pos,af,none⟩::rest) env L:=by
 intro a w f;have d:=hL.sat f.sat;refine wpList_plain rfl fun K k=> ?_;unfold Oper.wp;have g:(storeVar t ⟨b,o,none⟩ (.agg vs)).run c.P w= .ok () (put w b (.cells cs' e (0,0))):=by
  rw[x0P (v:= .agg vs) (by rw[show(Value.agg vs).cells.size=n from i];exact p) d.pts m j,←l];rfl
 simp only[execOp,f.eval q,f.eval r,Instr.storeAt,Instr.sureAddr,Sem.run_bind,Sem.run_pure,Result.andThen_ok,g,Oper.upon];exact k _ _ (h _ _ ⟨f.size,f.slots,f.defers,d.put,f.like.put _ _⟩)
theorem d1Y {o:Obj} {v:Nat→Value} (f: ∀a w,b0J c env L a w→(execOp a.eval ⟨some d,op,ty,pos,af,none⟩).run c.P w= .ok (.value (v w.heap.size)) (w.alloc o))
 (h: ∀b,OW c ops Q rest ((d,v b)::env) (pts b o::L)) (hd:Nat.blt d c.n=true:=by rfl):OW c ops Q (⟨some d,op,ty,pos,af,none⟩::rest) env L:=by
 intro a w e;refine wpList_plain rfl fun K g=> ?_;unfold Oper.wp;rw[f a w e];exact g _ _ (h w.heap.size _ _ ((⟨e.size,e.slots,e.defers,e.sat.alloc o,e.like.alloc o⟩:b0J c env (pts w.heap.size o::L) a (w.alloc o)).put d _ hd))
theorem n2P {e:TypeId} {z:Value} (f:h0D c.P e=some z)
 (h: ∀b,OW c ops Q rest ((d,.pointer (some ⟨b,0,none⟩))::env) (pts b (.cells z.cells e (0,0))::L)) (hd:Nat.blt d c.n=true:=by rfl):OW c ops Q (⟨some d,.alloc e,ty,pos,af,none⟩::rest) env L:=by
 refine d1Y (v:=fun b=> .pointer (some ⟨b,0,none⟩)) (fun a w g=> ?_) h hd;unfold h0D at f;split at f
 ·rename_i i hi;simp[execOp,Instr.alloc,zeroValue,typeInfo,hi,f,newVar,newRow]
 ·cases f
theorem x2A {e:TypeId} {x:Operand} {v:Value} (g:evo env x=some v)
 (h: ∀b,OW c ops Q rest ((d,.pointer (some ⟨b,0,none⟩))::env) (pts b (.cells v.cells e (0,0))::L)) (hd:Nat.blt d c.n=true:=by rfl):OW c ops Q (⟨some d,.box e x,ty,pos,af,none⟩::rest) env L:=by
 refine d1Y (v:=fun b=> .pointer (some ⟨b,0,none⟩)) (fun a w f=> ?_) h hd;simp[execOp,Instr.box,f.eval g,newVar,newRow]
theorem r0G {t:TypeId} (h: ∀b,OW c ops Q rest ((d,.map (some b))::env) (pts b (.map #[] 0)::L)) (hd:Nat.blt d c.n=true:=by rfl):OW c ops Q (⟨some d,.makeMap t none,ty,pos,af,none⟩::rest) env L:=by
 refine d1Y (v:=fun b=> .map (some b)) (fun a w e=> ?_) h hd;simp[execOp,Instr.makeMap]
variable {x y body:Code}
theorem s1M (h:CW c x (Exit.then (y.wp c.P Q) Q) env L):CW c (x.seq y) Q env L:=fun a w b=>wp_seq (h a w b)
theorem i2H {id:Nat} {l:List Oper} (h:OW c l.toArray Q l env L):CW c (.region id l.toArray false) Q env L:=fun a w b=>wp_region_lit (h a w b)
theorem a0O {z:Operand} {b:Bool} (h:evo env z=some (.bool b)) (f:b=true→CW c x Q env L) (g:b=false→CW c y Q env L):CW c (.cond z x y) Q env L:=by
 intro a w d;exact wp_cond_split (d.eval h) (fun e=>f e a w d) (fun e=>g e a w d)
theorem d0P {z:Operand} {b:Bool} (f:evo env z=some (.bool b)) (hb:b=true) (e:CW c x Q env L):CW c (.cond z x y) Q env L:=by
 subst hb;exact fun a w d=>wp_cond_true (d.eval f) (e a w d)
theorem b0S {z:Operand} {b:Bool} (f:evo env z=some (.bool b)) (hb:b=false) (e:CW c y Q env L):CW c (.cond z x y) Q env L:=by
 subst hb;exact fun a w d=>wp_cond_false (d.eval f) (e a w d)
theorem n2Q {id:Nat} (h:CW c body (Exit.inBlock id Q) env L):CW c (.block id body) Q env L:=fun a w b=>wp_block (h a w b)
theorem s2W (h:KW c Q .normal env L):CW c .skip Q env L:=fun a w b=>wp_skip (h a w b)
theorem s2X {id:Nat} (h:KW c Q (.exit id) env L):CW c (.exit id) Q env L:=fun a w b=>wp_exit (h a w b)
theorem s0A (h:KW c Q .ret env L):CW c .ret Q env L:=fun a w b=>wp_ret (h a w b)
theorem s2Y {e:Exit} {b:Exit→Act→World→Prop} (f: ∀a w,y.wp c.P b a w→Q e a w) (h:CW c y b env L):KW c Q e env L:=fun a w d=>f a w (h a w d)
theorem b0J.weaken {env' L' a w} (h:b0J c env L a w) (d: ∀t v,c0E env' t=some v→c0E env t=some v) (hL: ∃R,L.Perm (L'++R)):b0J c env' L' a w:=by
 obtain⟨R,b⟩:=hL;exact⟨h.size,fun t v e=>h.slots t v (d t v e),h.defers,((h.sat.perm b).perm List.perm_append_comm).drop,h.like⟩
end
def Sub (env:List (Nat×Value)):List (Nat×Value)→Prop
 | []=>True
 | (t,v)::e=>c0E env t=some v∧Sub env e
theorem Sub.nil {env} :Sub env []:=trivial
theorem Sub.cons {env e t v} (h:c0E env t=some v) (k:Sub env e):Sub env ((t,v)::e):=⟨h,k⟩
theorem Sub.le {env:List (Nat×Value)} : ∀ {e},Sub env e→ ∀t v,c0E e t=some v→c0E env t=some v
 | [],_,t,v,h=>by simp[c0E]at h
 | (k,u)::e,hs,t,v,h=>by
  simp only[c0E]at h;cases hb:Nat.beq k t with
  |true=>
   rw[hb]at h;have:k=t:=Nat.eq_of_beq_eq_true hb;subst this;simp only[Option.some.injEq]at h;subst h;exact hs.1
  |false=>rw[hb]at h;exact Sub.le hs.2 t v h
section
variable {c:Cx} {Q:Exit→Act→World→Prop} {env:List (Nat×Value)} {L:List a0E} {y body:Code}
theorem d1Z {p:Nat→Prop} (h: ∃n,p n): ∃n,p n∧ ∀m,p m→n≤m:=by
 obtain⟨n,d⟩:=h
 induction n using Nat.strongRecOn with
 |_ n ih=>
  by_cases c: ∃m,m<n∧p m
  ·obtain⟨m,b,e⟩:=c;exact ih m b e
  ·exact⟨n,d,fun m b=>by
    rcases Nat.lt_or_ge m n with a|a
    ·exact(c ⟨m,a,b⟩).elim
    ·exact a⟩
theorem a0V {X:Type} (E:X→List (Nat×Value)) (M:X→List a0E) (μ:X→Nat) (l:X) {R:List a0E} (r:Sub env (E l)) (hL:b0A L (M l) R)
 (d: ∀x m,m=μ x→CW c body (Exit.then (fun a w=> ∃z,b0J c (E z) (M z) a w∧μ z<m) Q) (E x) (M x)):CW c (.loop body) Q env L:=by
 intro a w s;have key: ∀n (x:X) a w,μ x=n→b0J c (E x) (M x) a w→(Code.loop body).wp c.P Q a w:=by
  intro n x a w _ u
  classical
  let I:Act→World→Prop:=fun a w=> ∃z,b0J c (E z) (M z) a w
  let m:Act→World→Nat:=fun a w=>if h: ∃n,∃z,μ z=n∧b0J c (E z) (M z) a w then Classical.choose (d1Z h)else 0
  refine wp_loop I m ⟨x,u⟩ ?_;rintro a w ⟨y,j⟩;have f: ∃n,∃z,μ z=n∧b0J c (E z) (M z) a w:=⟨_,y,rfl,j⟩;obtain⟨z,k,v⟩:=(Classical.choose_spec (d1Z f)).1;have A:m a w=μ z:=by simp only[m,dif_pos f];exact k.symm
  refine wp_mono (d z _ rfl a w v) ?_;rintro e o p q;cases e with
  |normal=>
   obtain⟨g,i,t⟩:=q;refine⟨⟨g,i⟩,?_⟩;have b: ∃n,∃z,μ z=n∧b0J c (E z) (M z) o p:=⟨_,g,rfl,i⟩;have:m o p≤μ g:=by simp only[m,dif_pos b];exact(Classical.choose_spec (d1Z b)).2 _ ⟨g,rfl,i⟩
   omega
  |exit _=>exact q
  |goto _=>exact q
  |ret=>exact q
  |panic _=>exact q
  |outgrown=>exact q
 exact key _ l a w rfl (s.weaken r.le ⟨R,hL⟩)
end
def a0G (P:Program) (f:FuncId) (args:Array Value) (Pre:List a0E) (Post:Ending→List a0E→Prop):Prop:=
 ∀w (F:a0E),Sat w (Pre++ [F])→Calls P f args w fun e a=> ∃L',Post e L'∧Sat a (L'++ [F])∧d0S w a
def BP (P:Program) (fn:Func) (Post:Ending→List a0E→Prop) (F:a0E) (w0:World):Exit→Act→World→Prop:=
 bodyPost P fn fun e a=> ∃L',Post e L'∧Sat a (L'++ [F])∧d0S w0 a
def j0X:Nat→List Value→List (Nat×Value)
 |_,[]=> []
 |k,v::vs=>(k,v)::j0X (k+1) vs
theorem r0H: ∀(vs:List Value) (k t:Nat) (v:Value),c0E (j0X k vs) t=some v→k≤t∧vs[t-k]? =some v
 | [],_,_,_,h=>by simp[j0X,c0E]at h
 |u::vs,k,t,v,h=>by
  simp only[j0X,c0E]at h;cases hb:Nat.beq k t with
  |true=>
   rw[hb]at h;have:k=t:=Nat.eq_of_beq_eq_true hb;subst this;simpa using h
  |false=>
   rw[hb]at h;have b:k≠t:=Nat.ne_of_beq_eq_false hb;obtain⟨c,a⟩:=r0H vs (k+1) t v h;refine⟨by omega,?_⟩;rw[show t-k=(t- (k+1))+1 by omega];simpa using a
theorem d2N {P:Program} {f:FuncId} {fn:Func} {a:Code} {args:List Value} {Pre:List a0E} {Post:Ending→List a0E→Prop} {n:Nat}
 (i:P.funcs[f]? =some fn) (hb:fn.body=some a) (k:fn.ntmps=n) (b:Nat.ble args.length n=true)
 (h: ∀F w0,CW ⟨P,n,[],w0⟩ a (BP P fn Post F w0) (j0X 0 args) (Pre++ [F])):a0G P f args.toArray Pre Post:=by
 have j:args.length≤n:=Nat.le_of_ble_eq_true b;intro w F c;refine calls_of_wp i hb (h F w _ w ?_);refine⟨by simp[k];omega,?_,rfl,c,d0S.refl w⟩;intro t v l;obtain⟨_,d⟩:=r0H args 0 t v l;simp only[Nat.sub_zero]at d;have g:t<args.length:=by
  rcases Nat.lt_or_ge t args.length with e|e
  ·exact e
  ·rw[List.getElem?_eq_none e]at d;cases d
 rw[Array.getElem?_append_left (by simpa using g)];simpa using d
def q0H (fn:Func) (env:List (Nat×Value)):Option Value:=
 match fn.results.toList with
 | []=>some (.tuple #[])
 | [.tmp t]=>c0E env t
 | [.tmp t,.tmp u]=>(c0E env t).bind fun x=>(c0E env u).bind fun y=>some (.tuple #[x,y])
 | [.tmp t,.tmp u,.tmp s]=>(c0E env t).bind fun x=>(c0E env u).bind fun y=>(c0E env s).bind fun z=>some (.tuple #[x,y,z])
 |_=>none
theorem b1G {c:Cx} {fn:Func} {env L a w v} (h:b0J c env L a w) (b:q0H fn env=some v):(results fn a.tmps).run c.P w= .ok v w:=by
 have d:fn.results=fn.results.toList.toArray:=by simp
 unfold q0H at b;split at b
 ·rename_i e;simp only[Option.some.injEq]at b;subst b;rw[e]at d;exact results_none d _ _ _
 ·rename_i t e;rw[e]at d;rw[results_tmp d];simp[h.slots _ _ b]
 ·rename_i t u e;rw[e]at d;rw[results_tmp2 d];obtain⟨x,f,b⟩:=Option.bind_eq_some_iff.1 b;obtain⟨y,g,b⟩:=Option.bind_eq_some_iff.1 b;simp only[Option.some.injEq]at b;subst b;simp[h.slots _ _ f,h.slots _ _ g]
 ·rename_i t u s e;rw[e]at d;obtain⟨x,f,b⟩:=Option.bind_eq_some_iff.1 b;obtain⟨y,g,b⟩:=Option.bind_eq_some_iff.1 b;obtain⟨z,i,b⟩:=Option.bind_eq_some_iff.1 b;simp only[Option.some.injEq]at b;subst b;have:(results fn a.tmps).run c.P w= .ok (.tuple #[a.tmps.getD t undef,a.tmps.getD u undef,a.tmps.getD s undef]) w:=by simp[results,d]
  rw[this];simp[h.slots _ _ f,h.slots _ _ g,h.slots _ _ i]
 ·cases b
section
variable {P:Program} {n:Nat} {w0:World} {Q:Exit→Act→World→Prop} {env:List (Nat×Value)} {L:List a0E} {fn:Func} {Post:Ending→List a0E→Prop} {F:a0E}
theorem k1T {e:Exit} (d: ∀a w,BP P fn Post F w0 .ret a w→Q e a w) {v:Value} (g:q0H fn env=some v) {L' R:List a0E} (hL:b0A L (L'++ [F]) R) (c:Post (.returned v) L'):KW ⟨P,n,[],w0⟩ Q e env L:=by
 intro a w b;have f:Sat w (L'++ [F]):=((b.sat.perm hL).perm List.perm_append_comm).drop;exact d a w ⟨b.defers,v,b1G b g,L',c,f,b.like⟩
theorem x0Q {v:Value} (e:q0H fn env=some v) {L' R:List a0E} (hL:b0A L (L'++ [F]) R) (c:Post (.returned v) L'):KW ⟨P,n,[],w0⟩ (BP P fn Post F w0) .normal env L:=by
 intro a w b;have d:Sat w (L'++ [F]):=((b.sat.perm hL).perm List.perm_append_comm).drop;exact⟨b.defers,v,b1G b e,L',c,d,b.like⟩
theorem d0U {b:List PanicEntry} (e: ∀a w,BP P fn Post F w0 (.panic b) a w→Q (.panic b) a w) {L' R:List a0E} (hL:b0A L (L'++ [F]) R) (d:Post (.panicked b) L'):KW ⟨P,n,[],w0⟩ Q (.panic b) env L:=by
 intro a w c;have f:Sat w (L'++ [F]):=((c.sat.perm hL).perm List.perm_append_comm).drop;exact e a w ⟨c.defers,L',d,f,c.like⟩
end
section
variable {c:Cx} {ops:Array Oper} {Q:Exit→Act→World→Prop} {rest:List Oper} {env:List (Nat×Value)} {L:List a0E}
 {d:Tmp} {ty:TypeId} {pos:String} {af:Array Edge}
def f0H (P : Program) (f : FuncId) : Bool := match P.funcs[f]? with | some fn => fn.body.isSome && !(fn.name == "runtime.NumGoroutine") | none => false
theorem t0C {P:Program} {f:FuncId} (hb:f0H P f=true) (args:Array Value) (w:World):(callFunc f args).run P w= .ok (.enter f args) w:=by
 unfold f0H at hb;split at hb
 ·rename_i fn b;simp at hb;have a:fn.body≠none:=fun h=>by simp[h]at hb
  simp[callFunc,b,hb.2,a]
 ·cases hb
theorem s1B {env:List (Nat×Value)} {L a w} (h:b0J c env L a w): ∀(l:List Operand) (m:List Value),l.mapM (evo env)=some m→l.map a.eval=m
 | [],m,hm=>by simpa using hm
 |x::l,m,hm=>by
  simp only[List.mapM_cons,Option.bind_eq_bind,Option.bind_eq_some_iff,Option.pure_def,Option.some.injEq]at hm;obtain⟨v,d,e,b,rfl⟩:=hm;simp[h.eval d,s1B h l _ b]
theorem w0Y {g:Option Tmp} {fx:Operand} {f:FuncId} {xs:List Operand} {ats:Array TypeId} {first vs cap:List Value} {Pre M:List a0E} {Post:Ending→List a0E→Prop}
 (u:evo env fx=some (.func (.func f) first.toArray cap.toArray)) (hb:f0H c.P f=true) (y:xs.mapM (evo env)=some vs) (x:a0G c.P f (first++vs++cap).toArray Pre Post) (hL:b0A L Pre M)
 (k: ∀v L',Post (.returned v) L'→ ∀a w,b0J c env (L'++M) a w→wpList c.P ops Q rest (a.put g v) w)
 (j: ∀chain L',Post (.panicked chain) L'→KW c Q (.panic chain) env (L'++M))
 (i: ∀L',¬Post .outgrown L'):OW c ops Q (⟨g,.call {callee:= .value fx,args:=xs.toArray,argTypes:=ats},ty,pos,af,none⟩::rest) env L:=by
 intro a w b;refine wpList_plain rfl fun K t=> ?_;unfold Oper.wp;have h:(xs.toArray.map a.eval)=vs.toArray:=by simp[s1B b _ _ y]
 have l:(execOp a.eval ⟨g,.call {callee:= .value fx,args:=xs.toArray,argTypes:=ats},ty,pos,af,none⟩).run c.P w= .ok (.enter f (first++vs++cap).toArray) w:=by
  simp only[execOp,resolve,h,b.eval u,Deferred.ofValue,Sem.run_bind,Sem.run_pure,Result.andThen_ok,invoke];rw[t0C hb];simp
 rw[l,Oper.upon_enter];have m:Sat w (Pre++ [b0E M]):=by
  have o:=b.sat.perm hL;have s:Sat w (b0E M::Pre):=b0M.2 (o.perm List.perm_append_comm);exact s.perm (List.perm_append_comm (l₁:= [b0E M]) (l₂:=Pre))
 refine(x w (b0E M) m).mono ?_;rintro e n ⟨L',p,q,r⟩;have d:Sat n (L'++M):=by
  have o:Sat n (b0E M::L'):=q.perm (List.perm_append_comm (l₁:=L') (l₂:= [b0E M]));exact(b0M.1 o).perm List.perm_append_comm
 cases e with
 |returned v=>exact t _ _ (k v L' p a n ⟨b.size,b.slots,b.defers,d,b.like.trans r⟩)
 |panicked chain=>exact j chain L' p a n ⟨b.size,b.slots,b.defers,d,b.like.trans r⟩
 |outgrown=>exact(i L' p).elim
end
def a0T (v:Value) (M:List a0E):Ending→List a0E→Prop:=fun e L=>e= .returned v∧L=M
def b0P {X:Type} (p:X→Prop) (v:X→Value) (M:X→List a0E):Ending→List a0E→Prop:=fun e L=> ∃x,p x∧e= .returned (v x)∧L=M x
def s1N {X Y:Type} (p:X→Prop) (v:X→Value) (M:X→List a0E) (q:Y→Prop) (a:Y→List PanicEntry) (N:Y→List a0E):Ending→List a0E→Prop:=
 fun e L=>(∃x,p x∧e= .returned (v x)∧L=M x)∨(∃y,q y∧e= .panicked (a y)∧L=N y)
section
variable {c:Cx} {ops:Array Oper} {Q:Exit→Act→World→Prop} {rest:List Oper} {env:List (Nat×Value)} {L:List a0E}
 {d:Tmp} {ty:TypeId} {pos:String} {af:Array Edge} {fx:Operand} {f:FuncId} {xs:List Operand} {ats:Array TypeId} {first vs cap:List Value} {Pre M:List a0E}
theorem b0X {v:Value} {N:List a0E} (g:evo env fx=some (.func (.func f) first.toArray cap.toArray)) (hb:f0H c.P f=true) (k:xs.mapM (evo env)=some vs)
 (j:a0G c.P f (first++vs++cap).toArray Pre (a0T v N)) (hL:b0A L Pre M) (h:OW c ops Q rest ((d,v)::env) (N++M)) (hd:Nat.blt d c.n=true:=by rfl):
 OW c ops Q (⟨some d,.call {callee:= .value fx,args:=xs.toArray,argTypes:=ats},ty,pos,af,none⟩::rest) env L:=
 w0Y g hb k j hL (fun u L' b a w i=>by obtain⟨e,rfl⟩:=b;cases e;exact h _ _ (i.put d _ hd)) (fun l L' b=>by cases b.1) (fun L' b=>by cases b.1)
theorem i2I {v:Value} {N:List a0E} (d:evo env fx=some (.func (.func f) first.toArray cap.toArray)) (hb:f0H c.P f=true) (j:xs.mapM (evo env)=some vs)
 (i:a0G c.P f (first++vs++cap).toArray Pre (a0T v N)) (hL:b0A L Pre M) (h:OW c ops Q rest env (N++M)):
 OW c ops Q (⟨none,.call {callee:= .value fx,args:=xs.toArray,argTypes:=ats},ty,pos,af,none⟩::rest) env L:=
 w0Y d hb j i hL (fun u L' b a w g=>by obtain⟨e,rfl⟩:=b;cases e;exact h _ _ g) (fun k L' b=>by cases b.1) (fun L' b=>by cases b.1)
theorem d0Z {X:Type} {p:X→Prop} {v:X→Value} {N:X→List a0E} (g:evo env fx=some (.func (.func f) first.toArray cap.toArray)) (hb:f0H c.P f=true) (k:xs.mapM (evo env)=some vs)
 (j:a0G c.P f (first++vs++cap).toArray Pre (b0P p v N)) (hL:b0A L Pre M) (h: ∀x,p x→OW c ops Q rest ((d,v x)::env) (N x++M)) (hd:Nat.blt d c.n=true:=by rfl):
 OW c ops Q (⟨some d,.call {callee:= .value fx,args:=xs.toArray,argTypes:=ats},ty,pos,af,none⟩::rest) env L:=
 w0Y g hb k j hL (fun u L' b a w i=>by obtain⟨x,l,e,rfl⟩:=b;cases e;exact h x l _ _ (i.put d _ hd)) (fun m L' b=>by obtain⟨_,_,e,_⟩:=b;cases e) (fun L' b=>by obtain⟨_,_,e,_⟩:=b;cases e)
theorem i2J {X Y:Type} {p:X→Prop} {v:X→Value} {N:X→List a0E} {q:Y→Prop} {k:Y→List PanicEntry} {j:Y→List a0E}
 (o:evo env fx=some (.func (.func f) first.toArray cap.toArray)) (hb:f0H c.P f=true) (t:xs.mapM (evo env)=some vs)
 (s:a0G c.P f (first++vs++cap).toArray Pre (s1N p v N q k j)) (hL:b0A L Pre M) (h: ∀x,p x→OW c ops Q rest ((d,v x)::env) (N x++M))
 (m: ∀y,q y→KW c Q (.panic (k y)) env (j y++M)) (hd:Nat.blt d c.n=true:=by rfl):
 OW c ops Q (⟨some d,.call {callee:= .value fx,args:=xs.toArray,argTypes:=ats},ty,pos,af,none⟩::rest) env L:=
 w0Y o hb t s hL
  (fun u L' b a w r=>by
   rcases b with ⟨x,g,e,rfl⟩| ⟨y,i,e,rfl⟩
   ·cases e;exact h x g _ _ (r.put d _ hd)
   ·cases e)
  (fun l L' b=>by
   rcases b with ⟨x,g,e,rfl⟩| ⟨y,i,e,rfl⟩
   ·cases e
   ·cases e;exact m y i)
  (fun L' b=>by rcases b with ⟨x,g,e,rfl⟩| ⟨y,i,e,rfl⟩<;>cases e)
end
end
section
section
variable {c:Cx} {ops:Array Oper} {Q:Exit→Act→World→Prop} {rest:List Oper} {env:List (Nat×Value)} {L:List a0E} {Qs:List (Nat×Value)→Prop}
 {d:Tmp} {op:Op} {ty:TypeId} {pos:String} {af:Array Edge}
def OS (c:Cx) (ops:Array Oper) (L:List a0E) (Qs:List (Nat×Value)→Prop) (l:List Oper) (env:List (Nat×Value)):Prop:=
 ∀a w,b0J c env L a w→wpStill c.P ops w (fun b=> ∃env',Qs env'∧b0J c env' L b w) l a
theorem x2B (h:Qs env):OS c ops L Qs [] env:=fun _ _ a=>wpStill_nil ⟨env,h,a⟩
theorem b0V {v:Value} (f:a0P c ⟨some d,op,ty,pos,af,none⟩ env L v) (h:OS c ops L Qs rest ((d,v)::env)) (hd:Nat.blt d c.n=true:=by rfl):OS c ops L Qs (⟨some d,op,ty,pos,af,none⟩::rest) env:=by
 intro a w b;refine wpStill_step fun K e=> ?_;simp only[Region.wanted,if_true];unfold Oper.still;rw[f a w b];exact⟨rfl,e _ (h _ _ (b.put d v hd))⟩
theorem n0H {v:Value} {gd:Nat×Bool} (f: ∀a w,b0J c env L a w→Region.wanted ⟨some d,op,ty,pos,af,some gd⟩ (yielded ops a.tmps)=true) (g:a0P c ⟨some d,op,ty,pos,af,some gd⟩ env L v)
 (h:OS c ops L Qs rest ((d,v)::env)) (hd:Nat.blt d c.n=true:=by rfl):OS c ops L Qs (⟨some d,op,ty,pos,af,some gd⟩::rest) env:=by
 intro a w b;refine wpStill_step fun K e=> ?_;rw[if_pos (f a w b)];unfold Oper.still;rw[g a w b];exact⟨rfl,e _ (h _ _ (b.put d v hd))⟩
theorem s2Z {o:Oper} (g: ∀a w,b0J c env L a w→Region.wanted o (yielded ops a.tmps)=false) (hd:o.dst=some d)
 (h:OS c ops L Qs rest ((d,undef)::env)) (b:Nat.blt d c.n=true:=by rfl):OS c ops L Qs (o::rest) env:=by
 intro a w e;refine wpStill_step fun K f=> ?_;rw[if_neg (by rw[g a w e];simp),hd];exact f _ (h _ _ (e.put d undef b))
theorem t2A {id:Nat} {l:List Oper} (n:Nat) (s:c.P.follows .mixedOrders=true) (p:Region.lexTailB .any l.toArray n=true)
 (h:OS c l.toArray L (fun b=>OW c l.toArray Q (l.drop n) b L) (l.take n) env):CW c (.region id l.toArray true) Q env L:=by
 intro a w q;refine wp_region_still_tail n s p ?_;have m:=h a w.drew q.drew;have mono: ∀(f:List Oper) (a:Act) (K d:Act→Prop),(∀a,K a→d a)→wpStill c.P l.toArray w.drew K f a→wpStill c.P l.toArray w.drew d f a:=by
  intro f
  induction f with
  |nil=>intro a K d e h;exact e _ h
  |cons o r ih=>
   intro a K d e h;unfold wpStill at h ⊢;split
   ·rename_i j;rw[if_pos j]at h;exact Oper.still_mono (fun g k=>ih g K d e k) h
   ·rename_i j;rw[if_neg j]at h;exact ih _ K d e h
 refine mono _ a _ _ ?_ m;rintro g ⟨b,t,i⟩;exact t g _ i
theorem t2B {id:Nat} {l:List Oper} (q:c.P.follows .mixedOrders=true) (n:Region.lexB .any l.toArray=true)
 (h:OS c l.toArray L (fun b=>KW c Q .normal b L) l env):CW c (.region id l.toArray true) Q env L:=by
 intro a w p;refine wp_region_still_lit q n ?_;have m:=h a w.drew p.drew;have mono: ∀(f:List Oper) (a:Act) (K d:Act→Prop),(∀a,K a→d a)→wpStill c.P l.toArray w.drew K f a→wpStill c.P l.toArray w.drew d f a:=by
  intro f
  induction f with
  |nil=>intro a K d e h;exact e _ h
  |cons o r ih=>
   intro a K d e h;unfold wpStill at h ⊢;split
   ·rename_i j;rw[if_pos j]at h;exact Oper.still_mono (fun g k=>ih g K d e k) h
   ·rename_i j;rw[if_neg j]at h;exact ih _ K d e h
 refine mono _ a _ _ ?_ m;rintro g ⟨b,s,i⟩;exact s g _ i
end
theorem wTT {b:Bool} (h:b=true):(b == true)=true:=by rw[h];rfl
theorem wFF {b:Bool} (h:b=false):(b == false)=true:=by rw[h];rfl
theorem wTF {b:Bool} (h:b=false):(b == true)=false:=by rw[h];rfl
theorem wFT {b:Bool} (h:b=true):(b == false)=false:=by rw[h];rfl
section
variable {P:Program} {n:Nat} {w0:World} {Q:Exit→Act→World→Prop} {env:List (Nat×Value)} {L:List a0E} {fn:Func} {F:a0E} {c:Cx}
theorem b0A.back {L N R:List a0E} {A:a0E} (h:b0A L (A::N) R):b0A L (N++ [A]) R:=List.Perm.trans h ((List.perm_append_comm (l₁:= [A]) (l₂:=N)).append_right R)
theorem g1H {v u:Value} {N R:List a0E} (b: ∀a w,BP P fn (a0T v N) F w0 .ret a w→Q .ret a w) (c:q0H fn env=some u) (hu:u=v) (hL:b0A L (F::N) R):CW ⟨P,n,[],w0⟩ .ret Q env L:=
 s0A (k1T b c hL.back ⟨by rw[hu],rfl⟩)
theorem d0Q {v u:Value} {N R:List a0E} (a:q0H fn env=some u) (hu:u=v) (hL:b0A L (F::N) R):KW ⟨P,n,[],w0⟩ (BP P fn (a0T v N) F w0) .normal env L:=
 x0Q a hL.back ⟨by rw[hu],rfl⟩
theorem g1I {X:Type} {p:X→Prop} {v:X→Value} {N:X→List a0E} {u:Value} {R:List a0E} (x:X) (d:p x) (b: ∀a w,BP P fn (b0P p v N) F w0 .ret a w→Q .ret a w) (c:q0H fn env=some u) (hu:u=v x) (hL:b0A L (F::N x) R):CW ⟨P,n,[],w0⟩ .ret Q env L:=
 s0A (k1T b c hL.back ⟨x,d,by rw[hu],rfl⟩)
theorem a2S {X:Type} {p:X→Prop} {v:X→Value} {N:X→List a0E} {u:Value} {R:List a0E} (x:X) (b:p x) (a:q0H fn env=some u) (hu:u=v x) (hL:b0A L (F::N x) R):KW ⟨P,n,[],w0⟩ (BP P fn (b0P p v N) F w0) .normal env L:=
 x0Q a hL.back ⟨x,b,by rw[hu],rfl⟩
theorem k1U {y:Code} {L':List a0E} (h:L=L') (k:CW c y Q env L'):CW c y Q env L:=h▸k
theorem r0I {x y:Code} {Q:Exit→Act→World→Prop} (b:List (Nat×Value)) (L':List a0E) (d:CW c x (Exit.then (fun a w=>b0J c b L' a w) Q) env L) (f:CW c y Q b L'):CW c (x.seq y) Q env L:=by
 refine s1M fun a w g=>wp_mono (d a w g) ?_;intro e h i q;cases e with
 |normal=>exact f _ _ q
 |exit _=>exact q
 |goto _=>exact q
 |ret=>exact q
 |panic _=>exact q
 |outgrown=>exact q
theorem j0D {X:Type} {x y:Code} {Q:Exit→Act→World→Prop} (b:X→List (Nat×Value)) (L':X→List a0E) (d:CW c x (Exit.then (fun a w=> ∃z,b0J c (b z) (L' z) a w) Q) env L) (f: ∀z,CW c y Q (b z) (L' z)):CW c (x.seq y) Q env L:=by
 refine s1M fun a w g=>wp_mono (d a w g) ?_;intro e h i q;cases e with
 |normal=>obtain⟨z,q⟩:=q;exact f z _ _ q
 |exit _=>exact q
 |goto _=>exact q
 |ret=>exact q
 |panic _=>exact q
 |outgrown=>exact q
theorem n2R {X:Type} {e:Exit} {b:X→List (Nat×Value)} {L':X→List a0E} {R:List a0E} {Q:Exit→Act→World→Prop} (g: ∀a w,(∃z,b0J c (b z) (L' z) a w)→Q e a w) (z:X) (d:Sub env (b z)) (hL:b0A L (L' z) R):KW c Q e env L:=fun a w f=>g a w ⟨z,f.weaken d.le ⟨R,hL⟩⟩
theorem h0W {e:Exit} {b:List (Nat×Value)} {L' R:List a0E} {Q:Exit→Act→World→Prop} (g: ∀a w,b0J c b L' a w→Q e a w) (d:Sub env b) (hL:b0A L L' R):KW c Q e env L:=fun a w f=>g a w (f.weaken d.le ⟨R,hL⟩)
theorem e1A {X:Type} {e:Exit} {E:X→List (Nat×Value)} {M:X→List a0E} {μ:X→Nat} {m:Nat} {R:List a0E} {Q:Exit→Act→World→Prop} (f: ∀a w,(∃z,b0J c (E z) (M z) a w∧μ z<m)→Q e a w) (z:X) (g:μ z<m) (b:Sub env (E z)) (hL:b0A L (M z) R):KW c Q e env L:=fun a w d=>f a w ⟨z,d.weaken b.le ⟨R,hL⟩,g⟩
end
inductive RV (c:Cx) (env:List (Nat×Value)) (L:List a0E):List ResultVar→List Value→Prop
 |nil:RV c env L [] []
 |tmp {t v r vs} (h:c0E env t=some v) (k:RV c env L r vs):RV c env L (.tmp t::r) (v::vs)
 |cell {t ty b o cs e fr M v r vs} (ht:f0Q c.P ty=true) (h:c0E env t=some (.pointer (some ⟨b,o,none⟩))) [hL:o0G L b (.cells (List.toArray cs) e fr) M] (hv:nth cs o=some v) (k:RV c env L r vs):RV c env L (.cell t ty::r) (v::vs)
 |agg {t ty b o n cs e fr M v r vs} (ht:o0N c.P ty n=true) (h:c0E env t=some (.pointer (some ⟨b,o,none⟩))) [hL:o0G L b (.cells cs e fr) M] (hn:o+n≤cs.size) (hv:cs.extract o (o+n)=v) (k:RV c env L r vs):RV c env L (.cell t ty::r) (.agg v::vs)
def b1H:List Value→Value
 | [v]=>v
 |vs=> .tuple vs.toArray
def k1V (tmps:Array Value):ResultVar→Sem Value
 | .tmp t=>pure (tmps.getD t undef)
 | .cell p t=>do loadVar t (←asAddr (tmps.getD p undef))
theorem RV.runs {c:Cx} {env:List (Nat×Value)} {L:List a0E} {a:Act} {w:World} (b:b0J c env L a w): ∀ {rs:List ResultVar} {vs:List Value},RV c env L rs vs→(rs.mapM (k1V a.tmps)).run c.P w= .ok vs w:=by
 intro rs vs h
 induction h with
 |nil=>simp
 |tmp h k ih=>rw[List.mapM_cons];simp[Sem.run_bind,k1V,b.slots _ _ h,ih]
 |cell ht h hv k ih=>
  rename_i hL;have hb:=(hL.sat b.sat).pts;rw[e0F]at hv;have d:=b.slots _ _ h;rw[List.mapM_cons];simp[Sem.run_bind,k1V,d,asAddr,loadVar,k0Z ht,World.cell?,hb,hv,ih]
 |agg ht h hn hv k ih=>
  rename_i hL;have hb:=(hL.sat b.sat).pts;have d:=b.slots _ _ h;rw[List.mapM_cons];simp[Sem.run_bind,k1V,d,asAddr,loadVar,j0A ht,j0H ht,g0U hb hn,hv,ih]
theorem RV.res {c:Cx} {env:List (Nat×Value)} {L:List a0E} {a:Act} {w:World} {fn:Func} {vs:List Value} (b:b0J c env L a w) (h:RV c env L fn.results.toList vs):(results fn a.tmps).run c.P w= .ok (b1H vs) w:=by
 have e:results fn a.tmps=(do let vs←fn.results.mapM (k1V a.tmps);pure (if h:vs.size=1 then vs[0]else .tuple vs)):=by
  unfold results;congr 1
 rw[e,Array.mapM_eq_mapM_toList];have:=RV.runs b h;simp only[Sem.run_bind,Sem.run_map,this,Result.andThen_ok];cases vs with
 |nil=>simp[b1H]
 |cons v vs=>cases vs<;>simp[b1H]
section
variable {P:Program} {n:Nat} {w0:World} {Q:Exit→Act→World→Prop} {env:List (Nat×Value)} {L:List a0E} {fn:Func} {F:a0E} {Post:Ending→List a0E→Prop}
theorem n1L {e:Exit} (d: ∀a w,BP P fn Post F w0 .ret a w→Q e a w) {vs:List Value} (g:RV ⟨P,n,[],w0⟩ env L fn.results.toList vs) {L' R:List a0E} (hL:b0A L (F::L') R) (c:Post (.returned (b1H vs)) L'):KW ⟨P,n,[],w0⟩ Q e env L:=by
 intro a w b;have f:Sat w (L'++ [F]):=((b.sat.perm hL.back).perm List.perm_append_comm).drop;exact d a w ⟨b.defers,_,g.res b,L',c,f,b.like⟩
theorem q0L {v:Value} {N R:List a0E} (b: ∀a w,BP P fn (a0T v N) F w0 .ret a w→Q .ret a w) {us:List Value} (c:RV ⟨P,n,[],w0⟩ env L fn.results.toList us) (hu:b1H us=v) (hL:b0A L (F::N) R):CW ⟨P,n,[],w0⟩ .ret Q env L:=
 s0A (n1L b c hL ⟨by rw[hu],rfl⟩)
theorem c0T {X:Type} {p:X→Prop} {v:X→Value} {N:X→List a0E} {us:List Value} {R:List a0E} (x:X) (d:p x) (b: ∀a w,BP P fn (b0P p v N) F w0 .ret a w→Q .ret a w) (c:RV ⟨P,n,[],w0⟩ env L fn.results.toList us) (hu:b1H us=v x) (hL:b0A L (F::N x) R):CW ⟨P,n,[],w0⟩ .ret Q env L:=
 s0A (n1L b c hL ⟨x,d,by rw[hu],rfl⟩)
end
end
section
def b0T (Q:Exit→Act→World→Prop):Prop:= ∀ch (a:Act) (d:Option Tmp) (v:Value) (w:World),Q (.panic ch) (a.put d v) w→Q (.panic ch) a w
theorem k1W (a:Act) (d:Option Tmp) (v:Value):(a.put d v).defers=a.defers:=by cases d<;>rfl
theorem b0T.then {R:Act→World→Prop} {Q:Exit→Act→World→Prop} (h:b0T Q):b0T (Exit.then R Q):=h
theorem b0T.inBlock {id:Nat} {Q:Exit→Act→World→Prop} (h:b0T Q):b0T (Exit.inBlock id Q):=h
theorem b0T.bp {P:Program} {fn:Func} {Post:Ending→List a0E→Prop} {F:a0E} {w0:World} :b0T (BP P fn Post F w0):=fun e a d v w h=>by
 obtain⟨b,c⟩:=(h:(a.put d v).defers= []∧_);exact⟨by rw[←k1W a d v];exact b,c⟩
inductive l0A where
 |done
 |soft (i:Nat) (p:l0A)
 |hard (i:Nat) (p:l0A)
 |two (i:Nat) (p:l0A) (j:Nat) (q:l0A)
 |three (i:Nat) (p:l0A) (j:Nat) (q:l0A) (k:Nat) (r:l0A)
 |four (i:Nat) (p:l0A) (j:Nat) (q:l0A) (k:Nat) (r:l0A) (m:Nat) (s:l0A)
def l0A.len:l0A→Nat
 | .done=>0
 | .soft _ p| .hard _ p| .two _ p _ _| .three _ p _ _ _ _| .four _ p _ _ _ _ _ _=>p.len+1
def l0P (ops:Array Oper):l0A→Array Bool→Bool
 | .done,l=>(Region.ready .any ops l).isEmpty
 | .soft i p,l=>Region.free .any ops l i&&((Region.ready .any ops l).contains i&&l0P ops p (l.setIfInBounds i true))
 | .hard i p,l=>(match Region.ready .any ops l with| [j]=>Nat.beq j i|_=>false)&&l0P ops p (l.setIfInBounds i true)
 | .two i p j q,l=>(match Region.ready .any ops l with| [x,y]=>Nat.beq x i&&Nat.beq y j|_=>false)&&(Nat.beq p.len q.len&&(l0P ops p (l.setIfInBounds i true)&&l0P ops q (l.setIfInBounds j true)))
 | .three i p j q k r,l=>(match Region.ready .any ops l with| [x,y,z]=>Nat.beq x i&&(Nat.beq y j&&Nat.beq z k)|_=>false)&&
  (Nat.beq p.len q.len&&(Nat.beq p.len r.len&&(l0P ops p (l.setIfInBounds i true)&&(l0P ops q (l.setIfInBounds j true)&&l0P ops r (l.setIfInBounds k true)))))
 | .four i p j q k r m s,l=>(match Region.ready .any ops l with| [x,y,z,u]=>Nat.beq x i&&(Nat.beq y j&&(Nat.beq z k&&Nat.beq u m))|_=>false)&&
  (Nat.beq p.len q.len&&(Nat.beq p.len r.len&&(Nat.beq p.len s.len&&(l0P ops p (l.setIfInBounds i true)&&(l0P ops q (l.setIfInBounds j true)&&(l0P ops r (l.setIfInBounds k true)&&l0P ops s (l.setIfInBounds m true)))))))
def q0M (c:Cx) (K:List a0E) (w:World):Prop:=Sat w K∧d0S c.w0 w
def OM (c:Cx) (ops:Array Oper) (Q:Exit→Act→World→Prop) (K:List a0E) (steps:l0A) (env:List (Nat×Value)) (L:List a0E):Prop:=
 ∀(l:Array Bool) (a:Act) (w:World),l0P ops steps l=true→Region.noSelect ops=true→b0T Q→b0J c env L a w→Sat w K→wpAnyH c.P .any ops Q (q0M c K) steps.len l a w
def KM (c:Cx) (ops:Array Oper) (Q:Exit→Act→World→Prop) (K:List a0E) (steps:l0A) (a:Act) (w:World):Prop:=
 q0M c K w∧ ∀(l:Array Bool),l0P ops steps l=true→Region.noSelect ops=true→b0T Q→wpAnyH c.P .any ops Q (q0M c K) steps.len l a w
section
variable {c:Cx} {ops:Array Oper} {Q:Exit→Act→World→Prop} {K:List a0E} {steps:l0A} {env:List (Nat×Value)} {L:List a0E}
 {d:Tmp} {op:Op} {ty:TypeId} {pos:String} {af:Array Edge} {i:Nat}
theorem x2C (h:KW c Q .normal env L):OM c ops Q K .done env L:=by
 intro l a w b _ _ d _;simp only[l0P,List.isEmpty_iff]at b;exact wpAnyH_done b (h a w d) _
theorem n1M {o:Oper} {v:Value} (hi:ops[i]? =some o) (j:o.dst=some d) (q: ∀a w,b0J c env K a w→YieldsIf c.P ops (q0M c K) o v a) (h:OM c ops Q K steps ((d,v)::env) L) (hd:Nat.blt d c.n=true):
 OM c ops Q K (.soft i steps) env L:=by
 intro l a w e m k b f;simp only[l0P,Bool.and_eq_true]at e;have g:b0J c env K a w:=⟨b.size,b.slots,b.defers,f,b.like⟩;refine wpAnyH_take (v:=v) hi m e.1 e.2.1 (fun p a w=>k p a _ _ w) (q a w g) ⟨f,b.like⟩ ?_;rw[j];exact h _ _ w e.2.2 m k (b.put d v hd) f
theorem d0A {v:Value} (hi:ops[i]? =some ⟨some d,op,ty,pos,af,none⟩) (f:a0P c ⟨some d,op,ty,pos,af,none⟩ env K v) (h:OM c ops Q K steps ((d,v)::env) L) (hd:Nat.blt d c.n=true:=by rfl):OM c ops Q K (.soft i steps) env L:=
 n1M hi rfl (fun a _ b=> .inl ⟨rfl,fun g e=>f a g ⟨b.size,b.slots,b.defers,e.1,e.2⟩⟩) h hd
theorem t0D {v:Value} {gd:Nat×Bool} (hi:ops[i]? =some ⟨some d,op,ty,pos,af,some gd⟩) (g:a0P c ⟨some d,op,ty,pos,af,some gd⟩ env K v)
 (f: ∀a w,b0J c env K a w→Region.wanted ⟨some d,op,ty,pos,af,some gd⟩ (yielded ops a.tmps)=true) (h:OM c ops Q K steps ((d,v)::env) L) (hd:Nat.blt d c.n=true:=by rfl):OM c ops Q K (.soft i steps) env L:=
 n1M hi rfl (fun a w b=> .inl ⟨f a w b,fun j e=>g a j ⟨b.size,b.slots,b.defers,e.1,e.2⟩⟩) h hd
theorem t2C {o:Oper} (hi:ops[i]? =some o) (b:o.dst=some d) (f: ∀a w,b0J c env K a w→Region.wanted o (yielded ops a.tmps)=false) (h:OM c ops Q K steps ((d,undef)::env) L) (hd:Nat.blt d c.n=true:=by rfl):
 OM c ops Q K (.soft i steps) env L:=
 n1M hi b (fun a w e=> .inr ⟨f a w e,rfl⟩) h hd
theorem n1N (P:Program) (o:Oper) (a:Act) (w:World) (N X:Act→World→Prop):o.wp P a w N (Exit.then X Q)=o.wp P a w N Q:=by
 unfold Oper.wp Oper.upon;split<;>rfl
theorem d2O {o:Oper} {l:Array Bool} {a:Act} {w:World} (hi:ops[i]? =some o) (h:OW c ops (Exit.then (KM c ops Q K steps) Q) [o] env L) (k:l0P ops steps (l.setIfInBounds i true)=true) (r:Region.noSelect ops=true) (m:b0T Q) (p:b0J c env L a w):
 wpOp c.P ops Q i (fun g f=>q0M c K f∧wpAnyH c.P .any ops Q (q0M c K) steps.len (l.setIfInBounds i true) g f) a w:=by
 have e:=h a w p;unfold wpOp;simp only[hi];unfold wpList at e;have d: ∀g f,wpList c.P ops (Exit.then (KM c ops Q K steps) Q) [] g f→q0M c K f∧wpAnyH c.P .any ops Q (q0M c K) steps.len (l.setIfInBounds i true) g f:=by
  intro g f s;have j:KM c ops Q K steps g f:=s;exact⟨j.1,j.2 _ k r m⟩
 split
 ·rename_i b;rw[if_pos b]at e;rcases e with e| ⟨n,q⟩
  ·left;rw[n1N]at e;exact Oper.wp_mono d e
  ·exact .inr ⟨n,q⟩
 ·rename_i b;rw[if_neg b]at e;exact d _ _ e
theorem om_h {o:Oper} (hi:ops[i]? =some o) (h:OW c ops (Exit.then (KM c ops Q K steps) Q) [o] env L):OM c ops Q K (.hard i steps) env L:=by
 intro l a w d p g m q;simp only[l0P,Bool.and_eq_true]at d;obtain⟨b,f⟩:=d;split at b
 ·rename_i j n;have:j=i:=Nat.eq_of_beq_eq_true b;subst this;refine wpAnyH_all n (by simp) ?_;intro k e;simp only[List.mem_singleton]at e;subst e;exact d2O hi h f p g m
 ·cases b
theorem p0R {p q:l0A} {j:Nat} {o o':Oper} (hi:ops[i]? =some o) (z:ops[j]? =some o') (h:OW c ops (Exit.then (KM c ops Q K p) Q) [o] env L) (t:OW c ops (Exit.then (KM c ops Q K q) Q) [o'] env L):OM c ops Q K (.two i p j q) env L:=by
 intro l a w e n f g B;simp only[l0P,Bool.and_eq_true]at e;obtain⟨b,d,u,v⟩:=e;have d:=Nat.eq_of_beq_eq_true d;split at b
 ·rename_i x y A;simp only[Bool.and_eq_true]at b;have r:=Nat.eq_of_beq_eq_true b.1;have s:=Nat.eq_of_beq_eq_true b.2;subst r;subst s;refine wpAnyH_all A (by simp) ?_;intro k m;simp only[List.mem_cons,List.not_mem_nil,or_false]at m;rcases m with rfl|rfl
  ·exact d2O hi h u n f g
  ·rw[d];exact d2O z t v n f g
 ·cases b
theorem t2D {R:List a0E} (f:b0A L K R) (h:OM c ops Q K steps env L):KW c (Exit.then (KM c ops Q K steps) Q) .normal env L:=by
 intro a w b;have d:Sat w K:=((b.sat.perm f).perm List.perm_append_comm).drop;exact⟨⟨d,b.like⟩,fun l e i g=>h l a w e i g b d⟩
theorem x2D {id:Nat} {l:List Oper} {R:List a0E} (steps:l0A) (K:List a0E) (m:c.P.follows .mixedOrders=true)
 (b:(Region.noSelect l.toArray&&(Nat.beq steps.len l.length&&l0P l.toArray steps (Array.replicate l.length false)))=true) (j:b0T Q) (i:b0A L K R) (h:OM c l.toArray Q K steps env L):CW c (.region id l.toArray true) Q env L:=by
 intro a w k;simp only[Bool.and_eq_true]at b;have d:=k.drew;have n:Sat w.drew K:=((d.sat.perm i).perm List.perm_append_comm).drop;have g:=h _ a w.drew b.2.2 b.1 j d n;refine wp_region_held (S:=q0M c K) m ?_;have e:steps.len=l.toArray.size:=by simpa using Nat.eq_of_beq_eq_true b.2.1
 rw[←e];have f:Array.replicate steps.len false=Array.replicate l.length false:=by rw[Nat.eq_of_beq_eq_true b.2.1]
 rw[f];exact g
end
end
end Go.Sl

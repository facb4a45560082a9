/- Part of the proof; no statement of its own. -/
import Derived.Test.YtpinhnikemamjaaGreatDoorS01
import Derived.Calls
import Derived.StillTail
import Derived.OrdersHeld
set_option linter.all false
set_option maxRecDepth 4000
set_option maxHeartbeats 4000000
namespace Go.Sl
section
def OW (c:Cx) (ops:Array Oper) (Q:Exit→Act→World→Prop) (l:List Oper) (env:List (Nat×Value)) (L:List a0E):Prop:=
 ∀a w,b0J c env L a w→wpList c.P ops Q l a w
def CW (c:Cx) (code:Code) (Q:Exit→Act→World→Prop) (env:List (Nat×Value)) (L:List a0E):Prop:=
 ∀a w,b0J c env L a w→code.wp c.P Q a w
def KW (c:Cx) (Q:Exit→Act→World→Prop) (e:Exit) (env:List (Nat×Value)) (L:List a0E):Prop:=
 ∀a w,b0J c env L a w→Q e a w
section
variable {c:Cx} {ops:Array Oper} {Q:Exit→Act→World→Prop} {rest:List Oper} {env:List (Nat×Value)} {L:List a0E}
 {d:Tmp} {op:Op} {ty:TypeId} {pos:String} {af:Array Edge}
theorem a0D {v:Value} (hy:a0P c ⟨some d,op,ty,pos,af,none⟩ env L v) (h:OW c ops Q rest ((d,v)::env) L) (hd:Nat.blt d c.n=true:=by rfl):OW c ops Q (⟨some d,op,ty,pos,af,none⟩::rest) env L:=by
 intro a w hh;refine wpList_plain rfl fun K hK=> ?_;unfold Oper.wp;rw[hy a w hh];exact hK _ _ (h _ _ (hh.put d v hd))
theorem b0Z {v:Value} {gd:Nat×Bool} (hy:a0P c ⟨some d,op,ty,pos,af,some gd⟩ env L v) (hw: ∀a w,b0J c env L a w→Region.wanted ⟨some d,op,ty,pos,af,some gd⟩ (yielded ops a.tmps)=true)
 (h:OW c ops Q rest ((d,v)::env) L) (hd:Nat.blt d c.n=true:=by rfl):OW c ops Q (⟨some d,op,ty,pos,af,some gd⟩::rest) env L:=by
 intro a w hh;refine wpList_step fun K hK=> ?_;rw[if_pos (hw a w hh)];unfold Oper.wp;rw[hy a w hh];exact hK _ _ (h _ _ (hh.put d v hd))
theorem c0D {o:Oper} (hd:o.dst=some d) (hw: ∀a w,b0J c env L a w→Region.wanted o (yielded ops a.tmps)=false)
 (h:OW c ops Q rest ((d,undef)::env) L) (hlt:Nat.blt d c.n=true:=by rfl):OW c ops Q (o::rest) env L:=by
 intro a w hh;refine wpList_step fun K hK=> ?_;rw[if_neg (by rw[hw a w hh];simp),hd];exact hK _ _ (h _ _ (hh.put d undef hlt))
theorem p0V {o:Oper} {j:Nat} {want:Bool} {t:Nat} {b:Bool} {a:Act} {w:World} (hg:o.guard=some (j,want)) (hj:(ops[j]?).bind (·.dst)=some t) (ht:c0E env t=some (.bool b)) (hh:b0J c env L a w):
 Region.wanted o (yielded ops a.tmps)=(b == want):=by
 have h1:=hh.slots t _ ht;unfold Region.wanted;rw[hg];simp only[yielded,hj,h1,Option.bind_some];cases b<;>cases want<;>rfl
theorem o0V {o:Oper} (hw: ∀a w,b0J c env L a w→Region.wanted o (yielded ops a.tmps)=true) (h:OW c ops Q ({o with guard:=none} ::rest) env L):OW c ops Q (o::rest) env L:=by
 intro a w hh;have h1:=h a w hh;have h2:=hw a w hh;unfold wpList at h1 ⊢;rw[if_pos h2];rw[if_pos (by rfl)]at h1;exact h1
theorem w2Z (h:KW c Q .normal env L):OW c ops Q [] env L:=fun a w hh=>wpList_nil (h a w hh)
theorem n0T {P:Program} {b:Nat} {e:TypeId} : ∀(vs:List Value) (o i:Nat) (cs:Array Value) (w:World),w.heap[b]? =some (.cells cs e (0,0))→o+i+vs.length≤cs.size→(∀v∈vs,v.oneCell'=true)→
 (storeCells ⟨b,o,none⟩ vs i).run P w= .ok () (put w b (.cells (cs.extract 0 (o+i)++vs.toArray++cs.extract (o+i+vs.length) cs.size) e (0,0))):=by
 intro vs
 induction vs with
 |nil=>
  intro o i cs w hh hn _;have hb:=r0F hh;simp only[storeCells,Sem.run_pure,List.length_nil,Nat.add_zero];congr 1;have e1:cs.extract 0 (o+i)++(#[]:Array Value)++cs.extract (o+i) cs.size=cs:=by
   apply Array.ext
   ·simp at hn ⊢;omega
   ·intro k h1 h2;simp at h1;simp
  rw[e1];unfold put;have:w.heap.setIfInBounds b (.cells cs e (0,0))=w.heap:=by
   apply Array.ext
   ·simp
   ·intro k h1 h2;rw[Array.getElem_setIfInBounds (by simpa using h1)];split
    ·rename_i hbk;subst hbk;rw[Array.getElem?_eq_getElem hb]at hh;exact(Option.some.inj hh).symm
    ·rfl
  rw[this]
 |cons v vs ih=>
  intro o i cs w hh hn hv;have hb:=r0F hh;simp only[List.length_cons]at hn;have hc: ∃u,w.cell? ⟨b,o+i,none⟩=some u:=by
   refine⟨cs[o+i]'(by omega),?_⟩;simp[World.cell?,hh]
  obtain⟨u,hc⟩:=hc;have hf:w.frozen? ⟨b,o+i,none⟩=false:=by simp[World.frozen?,hh]
  have hset:w.setCell ⟨b,o+i,none⟩ v=put w b (.cells (cs.setIfInBounds (o+i) v) e (0,0)):=by
   unfold World.setCell put;congr 1;apply Array.ext
   ·simp
   ·intro k h1 h2;simp at h1;rw[Array.getElem_modify,Array.getElem_setIfInBounds (by simpa using h1)];split
    ·rename_i hbk;subst hbk;rw[Array.getElem?_eq_getElem hb]at hh;rw[Option.some.inj hh];simp
    ·rfl
  have hs:(store ((⟨b,o,none⟩:Addr).add i) v).run P w= .ok () (put w b (.cells (cs.setIfInBounds (o+i) v) e (0,0))):=by
   rw[j0C,run_store P w _ v _ (hv v (by simp)),hc];simp[hf,hset]
  simp only[storeCells,Sem.run_bind,hs,Result.andThen_ok];have hh':(put w b (.cells (cs.setIfInBounds (o+i) v) e (0,0))).heap[b]? =some (.cells (cs.setIfInBounds (o+i) v) e (0,0)):=by simp[put,hb]
  rw[ih o (i+1) _ _ hh' (by simp;omega) (fun x hx=>hv x (by simp[hx]))];congr 1;unfold put;simp only[Array.setIfInBounds_setIfInBounds];congr 3;apply Array.ext
  ·simp;omega
  ·intro k h1 h2;simp at h1 h2;simp only[Array.getElem_append,Array.getElem_extract,Array.size_extract,Array.size_append,Array.size_setIfInBounds,List.getElem_toArray,List.size_toArray,List.length_cons];have m1:min (o+(i+1)) cs.size-0=o+(i+1):=by omega
   have m2:min (o+i) cs.size-0=o+i:=by omega
   simp only[m1,m2];by_cases k1:k<o+i
   ·simp only[k1,show k<o+(i+1) by omega,show k<o+(i+1)+vs.length by omega,show k<o+i+(vs.length+1) by omega,dite_true];rw[Array.getElem_setIfInBounds (by omega),if_neg (by omega)]
   ·by_cases k2:k=o+i
    ·subst k2;simp only[show o+i<o+(i+1) by omega,show o+i<o+(i+1)+vs.length by omega,show o+i<o+i+(vs.length+1) by omega,dite_true,Nat.lt_irrefl,dite_false,Nat.sub_self,List.getElem_cons_zero];rw[Array.getElem_setIfInBounds (by omega),if_pos (by omega)]
    ·by_cases k3:k<o+i+(vs.length+1)
     ·simp only[k1,k3,show k<o+(i+1)+vs.length by omega,show ¬k<o+(i+1) by omega,dite_true,dite_false];rw[List.getElem_cons,dif_neg (by omega)];congr 1
     ·simp only[k1,k3,show ¬k<o+(i+1)+vs.length by omega,show ¬k<o+(i+1) by omega,dite_false];rw[Array.getElem_setIfInBounds (by omega),if_neg (by omega)];congr 1;omega
def j0I (cs:Array Value) (o:Nat) (vs:Array Value):Array Value:=cs.extract 0 o++vs++cs.extract (o+vs.size) cs.size
theorem d2M (cs:List Value) (o:Nat) (v:Value) (ho:o<cs.length):j0I cs.toArray o #[v]=(cs.set o v).toArray:=by
 unfold j0I;apply Array.ext
 ·simp;omega
 ·intro k h1 h2;simp at h1 h2;simp only[Array.getElem_append,Array.getElem_extract,Array.size_extract,Array.size_append,List.getElem_toArray,List.size_toArray,List.getElem_set];by_cases k1:k<o
  ·simp[k1,show k<o+1 by omega,show o≠k by omega,Nat.min_eq_left (Nat.le_of_lt ho)]
  ·by_cases k2:k=o
   ·subst k2;simp[Nat.min_eq_left (Nat.le_of_lt ho)]
   ·simp[show ¬k<o+1 by omega,show o≠k by omega,Nat.min_eq_left (Nat.le_of_lt ho)];congr 1;omega
theorem x0P {P:Program} {t:TypeId} {b o:Nat} {cs:Array Value} {e:TypeId} {v:Value} {w:World} (hs:x0O P t (v.cells.size)=true)
 (hh:w.heap[b]? =some (.cells cs e (0,0))) (hn:o+v.cells.size≤cs.size) (hv: ∀x∈v.cells.toList,x.oneCell'=true):
 (storeVar t ⟨b,o,none⟩ v).run P w= .ok () (put w b (.cells (j0I cs o v.cells) e (0,0))):=by
 unfold x0O at hs;split at hs
 ·rename_i i hi;simp at hs;have:=n0T (P:=P) v.cells.toList o 0 cs w hh (by simpa using hn) hv;simp[storeVar,sizeOf,typeInfo,hi,hs];simpa [j0I] using this
 ·cases hs
theorem a0N {cs vs:Array Value} (h:cs.size=vs.size):j0I cs 0 vs=vs:=by
 unfold j0I;apply Array.ext';simp[h]
theorem a0I {cs:Array Value} {n:Nat} (h:cs.size=n):cs.extract 0 (0+n)=cs:=by
 apply Array.ext';simp[←h]
theorem d0T {t:TypeId} {x y:Operand} {b o:Nat} {cs:List Value} {e:TypeId} {v:Value} {M:List a0E} {cs':List Value}
 (ht:x0O c.P t (1)=true) (hx:evo env x=some (.pointer (some ⟨b,o,none⟩))) (hy:evo env y=some v) (h1:v.oneCell'=true)
 [hL:o0G L b (.cells cs.toArray e (0,0)) M] (ho:Nat.blt o cs.length=true) (hc:cs.set o v=cs')
 (h:OW c ops Q rest env (pts b (.cells cs'.toArray e (0,0))::M)):OW c ops Q (⟨none,.store t x y,ty,pos,af,none⟩::rest) env L:=by
 intro a w hh;have ho':o<cs.length:=Nat.blt_eq▸ho;have hsat:=hL.sat hh.sat;have c0R:v.cells= #[v]:=by cases v<;>first|rfl|simp[Value.oneCell']at h1
 refine wpList_plain rfl fun K hK=> ?_;unfold Oper.wp;have hrun:(storeVar t ⟨b,o,none⟩ v).run c.P w= .ok () (put w b (.cells cs'.toArray e (0,0))):=by
  rw[x0P (by rw[c0R];exact ht) hsat.pts (by rw[c0R];exact ho') (by rw[c0R];simpa using h1),c0R,d2M cs o v ho',hc]
 simp only[execOp,hh.eval hx,hh.eval hy,Instr.storeAt,Instr.sureAddr,Sem.run_bind,Sem.run_pure,Result.andThen_ok,hrun,Oper.upon];exact hK _ _ (h _ _ ⟨hh.size,hh.slots,hh.defers,hsat.put,hh.like.put _ _⟩)
theorem a0M {t n:Nat} {x y:Operand} {b o:Nat} {cs vs cs':Array Value} {e:TypeId} {M:List a0E}
 (ht:x0O c.P t (n)=true) (hx:evo env x=some (.pointer (some ⟨b,o,none⟩))) (hy:evo env y=some (.agg vs)) (hsz:vs.size=n) (h1: ∀x∈vs.toList,x.oneCell'=true)
 [hL:o0G L b (.cells cs e (0,0)) M] (ho:o+vs.size≤cs.size) (hc:j0I cs o vs=cs')
 (h:OW c ops Q rest env (pts b (.cells cs' e (0,0))::M)):OW c ops Q (⟨none,.store t x y,ty,pos,af,none⟩::rest) env L:=by
 intro a w hh;have hsat:=hL.sat hh.sat;refine wpList_plain rfl fun K hK=> ?_;unfold Oper.wp;have hrun:(storeVar t ⟨b,o,none⟩ (.agg vs)).run c.P w= .ok () (put w b (.cells cs' e (0,0))):=by
  rw[x0P (v:= .agg vs) (by rw[show(Value.agg vs).cells.size=n from hsz];exact ht) hsat.pts ho h1,←hc];rfl
 simp only[execOp,hh.eval hx,hh.eval hy,Instr.storeAt,Instr.sureAddr,Sem.run_bind,Sem.run_pure,Result.andThen_ok,hrun,Oper.upon];exact hK _ _ (h _ _ ⟨hh.size,hh.slots,hh.defers,hsat.put,hh.like.put _ _⟩)
theorem d1Y {o:Obj} {v:Nat→Value} (hrun: ∀a w,b0J c env L a w→(execOp a.eval ⟨some d,op,ty,pos,af,none⟩).run c.P w= .ok (.value (v w.heap.size)) (w.alloc o))
 (h: ∀b,OW c ops Q rest ((d,v b)::env) (pts b o::L)) (hd:Nat.blt d c.n=true:=by rfl):OW c ops Q (⟨some d,op,ty,pos,af,none⟩::rest) env L:=by
 intro a w hh;refine wpList_plain rfl fun K hK=> ?_;unfold Oper.wp;rw[hrun a w hh];exact hK _ _ (h w.heap.size _ _ ((⟨hh.size,hh.slots,hh.defers,hh.sat.alloc o,hh.like.alloc o⟩:b0J c env (pts w.heap.size o::L) a (w.alloc o)).put d _ hd))
theorem n2P {e:TypeId} {z:Value} (hz:h0D c.P e=some z)
 (h: ∀b,OW c ops Q rest ((d,.pointer (some ⟨b,0,none⟩))::env) (pts b (.cells z.cells e (0,0))::L)) (hd:Nat.blt d c.n=true:=by rfl):OW c ops Q (⟨some d,.alloc e,ty,pos,af,none⟩::rest) env L:=by
 refine d1Y (v:=fun b=> .pointer (some ⟨b,0,none⟩)) (fun a w hh=> ?_) h hd;unfold h0D at hz;split at hz
 ·rename_i i hi;simp[execOp,Instr.alloc,zeroValue,typeInfo,hi,hz,newVar,newRow]
 ·cases hz
theorem x2A {e:TypeId} {x:Operand} {v:Value} (hx:evo env x=some v)
 (h: ∀b,OW c ops Q rest ((d,.pointer (some ⟨b,0,none⟩))::env) (pts b (.cells v.cells e (0,0))::L)) (hd:Nat.blt d c.n=true:=by rfl):OW c ops Q (⟨some d,.box e x,ty,pos,af,none⟩::rest) env L:=by
 refine d1Y (v:=fun b=> .pointer (some ⟨b,0,none⟩)) (fun a w hh=> ?_) h hd;simp[execOp,Instr.box,hh.eval hx,newVar,newRow]
theorem r0G {t:TypeId} (h: ∀b,OW c ops Q rest ((d,.map (some b))::env) (pts b (.map #[] 0)::L)) (hd:Nat.blt d c.n=true:=by rfl):OW c ops Q (⟨some d,.makeMap t none,ty,pos,af,none⟩::rest) env L:=by
 refine d1Y (v:=fun b=> .map (some b)) (fun a w hh=> ?_) h hd;simp[execOp,Instr.makeMap]
variable {x y body:Code}
theorem s1M (h:CW c x (Exit.then (y.wp c.P Q) Q) env L):CW c (x.seq y) Q env L:=fun a w hh=>wp_seq (h a w hh)
theorem i2H {id:Nat} {l:List Oper} (h:OW c l.toArray Q l env L):CW c (.region id l.toArray false) Q env L:=fun a w hh=>wp_region_lit (h a w hh)
theorem a0O {z:Operand} {b:Bool} (hz:evo env z=some (.bool b)) (h1:b=true→CW c x Q env L) (h2:b=false→CW c y Q env L):CW c (.cond z x y) Q env L:=by
 intro a w hh;exact wp_cond_split (hh.eval hz) (fun e=>h1 e a w hh) (fun e=>h2 e a w hh)
theorem d0P {z:Operand} {b:Bool} (hz:evo env z=some (.bool b)) (hb:b=true) (h1:CW c x Q env L):CW c (.cond z x y) Q env L:=by
 subst hb;exact fun a w hh=>wp_cond_true (hh.eval hz) (h1 a w hh)
theorem b0S {z:Operand} {b:Bool} (hz:evo env z=some (.bool b)) (hb:b=false) (h1:CW c y Q env L):CW c (.cond z x y) Q env L:=by
 subst hb;exact fun a w hh=>wp_cond_false (hh.eval hz) (h1 a w hh)
theorem n2Q {id:Nat} (h:CW c body (Exit.inBlock id Q) env L):CW c (.block id body) Q env L:=fun a w hh=>wp_block (h a w hh)
theorem s2W (h:KW c Q .normal env L):CW c .skip Q env L:=fun a w hh=>wp_skip (h a w hh)
theorem s2X {id:Nat} (h:KW c Q (.exit id) env L):CW c (.exit id) Q env L:=fun a w hh=>wp_exit (h a w hh)
theorem s0A (h:KW c Q .ret env L):CW c .ret Q env L:=fun a w hh=>wp_ret (h a w hh)
theorem s2Y {e:Exit} {Q':Exit→Act→World→Prop} (hq: ∀a w,y.wp c.P Q' a w→Q e a w) (h:CW c y Q' env L):KW c Q e env L:=fun a w hh=>hq a w (h a w hh)
theorem b0J.weaken {env' L' a w} (h:b0J c env L a w) (he: ∀t v,c0E env' t=some v→c0E env t=some v) (hL: ∃R,L.Perm (L'++R)):b0J c env' L' a w:=by
 obtain⟨R,hR⟩:=hL;exact⟨h.size,fun t v ht=>h.slots t v (he t v ht),h.defers,((h.sat.perm hR).perm List.perm_append_comm).drop,h.like⟩
end
def Sub (env:List (Nat×Value)):List (Nat×Value)→Prop
 | []=>True
 | (t,v)::e=>c0E env t=some v∧Sub env e
theorem Sub.nil {env} :Sub env []:=trivial
theorem Sub.cons {env e t v} (h:c0E env t=some v) (k:Sub env e):Sub env ((t,v)::e):=⟨h,k⟩
theorem Sub.le {env:List (Nat×Value)} : ∀ {e},Sub env e→ ∀t v,c0E e t=some v→c0E env t=some v
 | [],_,t,v,h=>by simp[c0E]at h
 | (k,u)::e,hs,t,v,h=>by
  simp only[c0E]at h;cases hb:Nat.beq k t with
  |true=>
   rw[hb]at h;have:k=t:=Nat.eq_of_beq_eq_true hb;subst this;simp only[Option.some.injEq]at h;subst h;exact hs.1
  |false=>rw[hb]at h;exact Sub.le hs.2 t v h
section
variable {c:Cx} {Q:Exit→Act→World→Prop} {env:List (Nat×Value)} {L:List a0E} {y body:Code}
theorem d1Z {p:Nat→Prop} (h: ∃n,p n): ∃n,p n∧ ∀m,p m→n≤m:=by
 obtain⟨n,hn⟩:=h
 induction n using Nat.strongRecOn with
 |_ n ih=>
  by_cases hx: ∃m,m<n∧p m
  ·obtain⟨m,hm,hp⟩:=hx;exact ih m hm hp
  ·exact⟨n,hn,fun m hm=>by
    rcases Nat.lt_or_ge m n with h'|h'
    ·exact(hx ⟨m,h',hm⟩).elim
    ·exact h'⟩
theorem a0V {X:Type} (E:X→List (Nat×Value)) (M:X→List a0E) (μ:X→Nat) (x0:X) {R:List a0E} (he:Sub env (E x0)) (hL:b0A L (M x0) R)
 (round: ∀x m,m=μ x→CW c body (Exit.then (fun a w=> ∃z,b0J c (E z) (M z) a w∧μ z<m) Q) (E x) (M x)):CW c (.loop body) Q env L:=by
 intro a w hh;have key: ∀n (x:X) a w,μ x=n→b0J c (E x) (M x) a w→(Code.loop body).wp c.P Q a w:=by
  intro n x a w _ hx
  classical
  let I:Act→World→Prop:=fun a w=> ∃z,b0J c (E z) (M z) a w
  let m:Act→World→Nat:=fun a w=>if h: ∃n,∃z,μ z=n∧b0J c (E z) (M z) a w then Classical.choose (d1Z h)else 0
  refine wp_loop I m ⟨x,hx⟩ ?_;rintro a w ⟨z0,hz0⟩;have hex: ∃n,∃z,μ z=n∧b0J c (E z) (M z) a w:=⟨_,z0,rfl,hz0⟩;obtain⟨z,hz1,hz⟩:=(Classical.choose_spec (d1Z hex)).1;have hm:m a w=μ z:=by simp only[m,dif_pos hex];exact hz1.symm
  refine wp_mono (round z _ rfl a w hz) ?_;rintro e a' w' q;cases e with
  |normal=>
   obtain⟨z',h',hlt⟩:=q;refine⟨⟨z',h'⟩,?_⟩;have hex': ∃n,∃z,μ z=n∧b0J c (E z) (M z) a' w':=⟨_,z',rfl,h'⟩;have:m a' w'≤μ z':=by simp only[m,dif_pos hex'];exact(Classical.choose_spec (d1Z hex')).2 _ ⟨z',rfl,h'⟩
   omega
  |exit _=>exact q
  |goto _=>exact q
  |ret=>exact q
  |panic _=>exact q
  |outgrown=>exact q
 exact key _ x0 a w rfl (hh.weaken he.le ⟨R,hL⟩)
end
def a0G (P:Program) (f:FuncId) (args:Array Value) (Pre:List a0E) (Post:Ending→List a0E→Prop):Prop:=
 ∀w (F:a0E),Sat w (Pre++ [F])→Calls P f args w fun e w'=> ∃L',Post e L'∧Sat w' (L'++ [F])∧d0S w w'
def BP (P:Program) (fn:Func) (Post:Ending→List a0E→Prop) (F:a0E) (w0:World):Exit→Act→World→Prop:=
 bodyPost P fn fun e w'=> ∃L',Post e L'∧Sat w' (L'++ [F])∧d0S w0 w'
def j0X:Nat→List Value→List (Nat×Value)
 |_,[]=> []
 |k,v::vs=>(k,v)::j0X (k+1) vs
theorem r0H: ∀(vs:List Value) (k t:Nat) (v:Value),c0E (j0X k vs) t=some v→k≤t∧vs[t-k]? =some v
 | [],_,_,_,h=>by simp[j0X,c0E]at h
 |u::vs,k,t,v,h=>by
  simp only[j0X,c0E]at h;cases hb:Nat.beq k t with
  |true=>
   rw[hb]at h;have:k=t:=Nat.eq_of_beq_eq_true hb;subst this;simpa using h
  |false=>
   rw[hb]at h;have hne:k≠t:=Nat.ne_of_beq_eq_false hb;obtain⟨h1,h2⟩:=r0H vs (k+1) t v h;refine⟨by omega,?_⟩;rw[show t-k=(t- (k+1))+1 by omega];simpa using h2
theorem d2N {P:Program} {f:FuncId} {fn:Func} {code:Code} {args:List Value} {Pre:List a0E} {Post:Ending→List a0E→Prop} {n:Nat}
 (hf:P.funcs[f]? =some fn) (hb:fn.body=some code) (hn:fn.ntmps=n) (hle':Nat.ble args.length n=true)
 (h: ∀F w0,CW ⟨P,n,[],w0⟩ code (BP P fn Post F w0) (j0X 0 args) (Pre++ [F])):a0G P f args.toArray Pre Post:=by
 have hle:args.length≤n:=Nat.le_of_ble_eq_true hle';intro w F hsat;refine calls_of_wp hf hb (h F w _ w ?_);refine⟨by simp[hn];omega,?_,rfl,hsat,d0S.refl w⟩;intro t v ht;obtain⟨_,h2⟩:=r0H args 0 t v ht;simp only[Nat.sub_zero]at h2;have hlt:t<args.length:=by
  rcases Nat.lt_or_ge t args.length with h'|h'
  ·exact h'
  ·rw[List.getElem?_eq_none h']at h2;cases h2
 rw[Array.getElem?_append_left (by simpa using hlt)];simpa using h2
def q0H (fn:Func) (env:List (Nat×Value)):Option Value:=
 match fn.results.toList with
 | []=>some (.tuple #[])
 | [.tmp t]=>c0E env t
 | [.tmp t,.tmp u]=>(c0E env t).bind fun x=>(c0E env u).bind fun y=>some (.tuple #[x,y])
 | [.tmp t,.tmp u,.tmp s]=>(c0E env t).bind fun x=>(c0E env u).bind fun y=>(c0E env s).bind fun z=>some (.tuple #[x,y,z])
 |_=>none
theorem b1G {c:Cx} {fn:Func} {env L a w v} (h:b0J c env L a w) (hv:q0H fn env=some v):(results fn a.tmps).run c.P w= .ok v w:=by
 have hl:fn.results=fn.results.toList.toArray:=by simp
 unfold q0H at hv;split at hv
 ·rename_i he;simp only[Option.some.injEq]at hv;subst hv;rw[he]at hl;exact results_none hl _ _ _
 ·rename_i t he;rw[he]at hl;rw[results_tmp hl];simp[h.slots _ _ hv]
 ·rename_i t u he;rw[he]at hl;rw[results_tmp2 hl];obtain⟨x,hx,hv⟩:=Option.bind_eq_some_iff.1 hv;obtain⟨y,hy,hv⟩:=Option.bind_eq_some_iff.1 hv;simp only[Option.some.injEq]at hv;subst hv;simp[h.slots _ _ hx,h.slots _ _ hy]
 ·rename_i t u s he;rw[he]at hl;obtain⟨x,hx,hv⟩:=Option.bind_eq_some_iff.1 hv;obtain⟨y,hy,hv⟩:=Option.bind_eq_some_iff.1 hv;obtain⟨z,hz,hv⟩:=Option.bind_eq_some_iff.1 hv;simp only[Option.some.injEq]at hv;subst hv;have:(results fn a.tmps).run c.P w= .ok (.tuple #[a.tmps.getD t undef,a.tmps.getD u undef,a.tmps.getD s undef]) w:=by simp[results,hl]
  rw[this];simp[h.slots _ _ hx,h.slots _ _ hy,h.slots _ _ hz]
 ·cases hv
section
variable {P:Program} {n:Nat} {w0:World} {Q:Exit→Act→World→Prop} {env:List (Nat×Value)} {L:List a0E} {fn:Func} {Post:Ending→List a0E→Prop} {F:a0E}
theorem k1T {e:Exit} (hq: ∀a w,BP P fn Post F w0 .ret a w→Q e a w) {v:Value} (hv:q0H fn env=some v) {L' R:List a0E} (hL:b0A L (L'++ [F]) R) (hp:Post (.returned v) L'):KW ⟨P,n,[],w0⟩ Q e env L:=by
 intro a w hh;have hs:Sat w (L'++ [F]):=((hh.sat.perm hL).perm List.perm_append_comm).drop;exact hq a w ⟨hh.defers,v,b1G hh hv,L',hp,hs,hh.like⟩
theorem x0Q {v:Value} (hv:q0H fn env=some v) {L' R:List a0E} (hL:b0A L (L'++ [F]) R) (hp:Post (.returned v) L'):KW ⟨P,n,[],w0⟩ (BP P fn Post F w0) .normal env L:=by
 intro a w hh;have hs:Sat w (L'++ [F]):=((hh.sat.perm hL).perm List.perm_append_comm).drop;exact⟨hh.defers,v,b1G hh hv,L',hp,hs,hh.like⟩
theorem d0U {chain:List PanicEntry} (hq: ∀a w,BP P fn Post F w0 (.panic chain) a w→Q (.panic chain) a w) {L' R:List a0E} (hL:b0A L (L'++ [F]) R) (hp:Post (.panicked chain) L'):KW ⟨P,n,[],w0⟩ Q (.panic chain) env L:=by
 intro a w hh;have hs:Sat w (L'++ [F]):=((hh.sat.perm hL).perm List.perm_append_comm).drop;exact hq a w ⟨hh.defers,L',hp,hs,hh.like⟩
end
section
variable {c:Cx} {ops:Array Oper} {Q:Exit→Act→World→Prop} {rest:List Oper} {env:List (Nat×Value)} {L:List a0E}
 {d:Tmp} {ty:TypeId} {pos:String} {af:Array Edge}
def f0H (P : Program) (f : FuncId) : Bool := match P.funcs[f]? with | some fn => fn.body.isSome && !(fn.name == "runtime.NumGoroutine") | none => false
theorem t0C {P:Program} {f:FuncId} (hb:f0H P f=true) (args:Array Value) (w:World):(callFunc f args).run P w= .ok (.enter f args) w:=by
 unfold f0H at hb;split at hb
 ·rename_i fn hf;simp at hb;have h2:fn.body≠none:=fun h=>by simp[h]at hb
  simp[callFunc,hf,hb.2,h2]
 ·cases hb
theorem s1B {env:List (Nat×Value)} {L a w} (h:b0J c env L a w): ∀(l:List Operand) (m:List Value),l.mapM (evo env)=some m→l.map a.eval=m
 | [],m,hm=>by simpa using hm
 |x::l,m,hm=>by
  simp only[List.mapM_cons,Option.bind_eq_bind,Option.bind_eq_some_iff,Option.pure_def,Option.some.injEq]at hm;obtain⟨v,hv,m',hm',rfl⟩:=hm;simp[h.eval hv,s1B h l _ hm']
theorem w0Y {dst:Option Tmp} {fx:Operand} {f:FuncId} {xs:List Operand} {ats:Array TypeId} {first vs cap:List Value} {Pre M:List a0E} {Post:Ending→List a0E→Prop}
 (hf:evo env fx=some (.func (.func f) first.toArray cap.toArray)) (hb:f0H c.P f=true) (hv:xs.mapM (evo env)=some vs) (hs:a0G c.P f (first++vs++cap).toArray Pre Post) (hL:b0A L Pre M)
 (hret: ∀v L',Post (.returned v) L'→ ∀a w,b0J c env (L'++M) a w→wpList c.P ops Q rest (a.put dst v) w)
 (hpan: ∀chain L',Post (.panicked chain) L'→KW c Q (.panic chain) env (L'++M))
 (hout: ∀L',¬Post .outgrown L'):OW c ops Q (⟨dst,.call {callee:= .value fx,args:=xs.toArray,argTypes:=ats},ty,pos,af,none⟩::rest) env L:=by
 intro a w hh;refine wpList_plain rfl fun K hK=> ?_;unfold Oper.wp;have hargs:(xs.toArray.map a.eval)=vs.toArray:=by simp[s1B hh _ _ hv]
 have hrun:(execOp a.eval ⟨dst,.call {callee:= .value fx,args:=xs.toArray,argTypes:=ats},ty,pos,af,none⟩).run c.P w= .ok (.enter f (first++vs++cap).toArray) w:=by
  simp only[execOp,resolve,hargs,hh.eval hf,Deferred.ofValue,Sem.run_bind,Sem.run_pure,Result.andThen_ok,invoke];rw[t0C hb];simp
 rw[hrun,Oper.upon_enter];have hsat:Sat w (Pre++ [b0E M]):=by
  have h1:=hh.sat.perm hL;have h2:Sat w (b0E M::Pre):=b0M.2 (h1.perm List.perm_append_comm);exact h2.perm (List.perm_append_comm (l₁:= [b0E M]) (l₂:=Pre))
 refine(hs w (b0E M) hsat).mono ?_;rintro e w' ⟨L',hp,hs',hl⟩;have hsat':Sat w' (L'++M):=by
  have h1:Sat w' (b0E M::L'):=hs'.perm (List.perm_append_comm (l₁:=L') (l₂:= [b0E M]));exact(b0M.1 h1).perm List.perm_append_comm
 cases e with
 |returned v=>exact hK _ _ (hret v L' hp a w' ⟨hh.size,hh.slots,hh.defers,hsat',hh.like.trans hl⟩)
 |panicked chain=>exact hpan chain L' hp a w' ⟨hh.size,hh.slots,hh.defers,hsat',hh.like.trans hl⟩
 |outgrown=>exact(hout L' hp).elim
end
def a0T (v:Value) (M:List a0E):Ending→List a0E→Prop:=fun e L=>e= .returned v∧L=M
def b0P {X:Type} (p:X→Prop) (v:X→Value) (M:X→List a0E):Ending→List a0E→Prop:=fun e L=> ∃x,p x∧e= .returned (v x)∧L=M x
def s1N {X Y:Type} (p:X→Prop) (v:X→Value) (M:X→List a0E) (q:Y→Prop) (ch:Y→List PanicEntry) (N:Y→List a0E):Ending→List a0E→Prop:=
 fun e L=>(∃x,p x∧e= .returned (v x)∧L=M x)∨(∃y,q y∧e= .panicked (ch y)∧L=N y)
section
variable {c:Cx} {ops:Array Oper} {Q:Exit→Act→World→Prop} {rest:List Oper} {env:List (Nat×Value)} {L:List a0E}
 {d:Tmp} {ty:TypeId} {pos:String} {af:Array Edge} {fx:Operand} {f:FuncId} {xs:List Operand} {ats:Array TypeId} {first vs cap:List Value} {Pre M:List a0E}
theorem b0X {v:Value} {N:List a0E} (hf:evo env fx=some (.func (.func f) first.toArray cap.toArray)) (hb:f0H c.P f=true) (hv:xs.mapM (evo env)=some vs)
 (hs:a0G c.P f (first++vs++cap).toArray Pre (a0T v N)) (hL:b0A L Pre M) (h:OW c ops Q rest ((d,v)::env) (N++M)) (hd:Nat.blt d c.n=true:=by rfl):
 OW c ops Q (⟨some d,.call {callee:= .value fx,args:=xs.toArray,argTypes:=ats},ty,pos,af,none⟩::rest) env L:=
 w0Y hf hb hv hs hL (fun u L' hp a w hh=>by obtain⟨e,rfl⟩:=hp;cases e;exact h _ _ (hh.put d _ hd)) (fun ch L' hp=>by cases hp.1) (fun L' hp=>by cases hp.1)
theorem i2I {v:Value} {N:List a0E} (hf:evo env fx=some (.func (.func f) first.toArray cap.toArray)) (hb:f0H c.P f=true) (hv:xs.mapM (evo env)=some vs)
 (hs:a0G c.P f (first++vs++cap).toArray Pre (a0T v N)) (hL:b0A L Pre M) (h:OW c ops Q rest env (N++M)):
 OW c ops Q (⟨none,.call {callee:= .value fx,args:=xs.toArray,argTypes:=ats},ty,pos,af,none⟩::rest) env L:=
 w0Y hf hb hv hs hL (fun u L' hp a w hh=>by obtain⟨e,rfl⟩:=hp;cases e;exact h _ _ hh) (fun ch L' hp=>by cases hp.1) (fun L' hp=>by cases hp.1)
theorem d0Z {X:Type} {p:X→Prop} {v:X→Value} {N:X→List a0E} (hf:evo env fx=some (.func (.func f) first.toArray cap.toArray)) (hb:f0H c.P f=true) (hv:xs.mapM (evo env)=some vs)
 (hs:a0G c.P f (first++vs++cap).toArray Pre (b0P p v N)) (hL:b0A L Pre M) (h: ∀x,p x→OW c ops Q rest ((d,v x)::env) (N x++M)) (hd:Nat.blt d c.n=true:=by rfl):
 OW c ops Q (⟨some d,.call {callee:= .value fx,args:=xs.toArray,argTypes:=ats},ty,pos,af,none⟩::rest) env L:=
 w0Y hf hb hv hs hL (fun u L' hp a w hh=>by obtain⟨x,hx,e,rfl⟩:=hp;cases e;exact h x hx _ _ (hh.put d _ hd)) (fun ch L' hp=>by obtain⟨_,_,e,_⟩:=hp;cases e) (fun L' hp=>by obtain⟨_,_,e,_⟩:=hp;cases e)
theorem i2J {X Y:Type} {p:X→Prop} {v:X→Value} {N:X→List a0E} {q:Y→Prop} {ch:Y→List PanicEntry} {N':Y→List a0E}
 (hf:evo env fx=some (.func (.func f) first.toArray cap.toArray)) (hb:f0H c.P f=true) (hv:xs.mapM (evo env)=some vs)
 (hs:a0G c.P f (first++vs++cap).toArray Pre (s1N p v N q ch N')) (hL:b0A L Pre M) (h: ∀x,p x→OW c ops Q rest ((d,v x)::env) (N x++M))
 (h': ∀y,q y→KW c Q (.panic (ch y)) env (N' y++M)) (hd:Nat.blt d c.n=true:=by rfl):
 OW c ops Q (⟨some d,.call {callee:= .value fx,args:=xs.toArray,argTypes:=ats},ty,pos,af,none⟩::rest) env L:=
 w0Y hf hb hv hs hL
  (fun u L' hp a w hh=>by
   rcases hp with ⟨x,hx,e,rfl⟩| ⟨y,hy,e,rfl⟩
   ·cases e;exact h x hx _ _ (hh.put d _ hd)
   ·cases e)
  (fun ch' L' hp=>by
   rcases hp with ⟨x,hx,e,rfl⟩| ⟨y,hy,e,rfl⟩
   ·cases e
   ·cases e;exact h' y hy)
  (fun L' hp=>by rcases hp with ⟨x,hx,e,rfl⟩| ⟨y,hy,e,rfl⟩<;>cases e)
end
end
section
section
variable {c:Cx} {ops:Array Oper} {Q:Exit→Act→World→Prop} {rest:List Oper} {env:List (Nat×Value)} {L:List a0E} {Qs:List (Nat×Value)→Prop}
 {d:Tmp} {op:Op} {ty:TypeId} {pos:String} {af:Array Edge}
def OS (c:Cx) (ops:Array Oper) (L:List a0E) (Qs:List (Nat×Value)→Prop) (l:List Oper) (env:List (Nat×Value)):Prop:=
 ∀a w,b0J c env L a w→wpStill c.P ops w (fun a'=> ∃env',Qs env'∧b0J c env' L a' w) l a
theorem x2B (h:Qs env):OS c ops L Qs [] env:=fun _ _ hh=>wpStill_nil ⟨env,h,hh⟩
theorem b0V {v:Value} (hy:a0P c ⟨some d,op,ty,pos,af,none⟩ env L v) (h:OS c ops L Qs rest ((d,v)::env)) (hd:Nat.blt d c.n=true:=by rfl):OS c ops L Qs (⟨some d,op,ty,pos,af,none⟩::rest) env:=by
 intro a w hh;refine wpStill_step fun K hK=> ?_;simp only[Region.wanted,if_true];unfold Oper.still;rw[hy a w hh];exact⟨rfl,hK _ (h _ _ (hh.put d v hd))⟩
theorem n0H {v:Value} {gd:Nat×Bool} (hw: ∀a w,b0J c env L a w→Region.wanted ⟨some d,op,ty,pos,af,some gd⟩ (yielded ops a.tmps)=true) (hy:a0P c ⟨some d,op,ty,pos,af,some gd⟩ env L v)
 (h:OS c ops L Qs rest ((d,v)::env)) (hd:Nat.blt d c.n=true:=by rfl):OS c ops L Qs (⟨some d,op,ty,pos,af,some gd⟩::rest) env:=by
 intro a w hh;refine wpStill_step fun K hK=> ?_;rw[if_pos (hw a w hh)];unfold Oper.still;rw[hy a w hh];exact⟨rfl,hK _ (h _ _ (hh.put d v hd))⟩
theorem s2Z {o:Oper} (hw: ∀a w,b0J c env L a w→Region.wanted o (yielded ops a.tmps)=false) (hd:o.dst=some d)
 (h:OS c ops L Qs rest ((d,undef)::env)) (hlt:Nat.blt d c.n=true:=by rfl):OS c ops L Qs (o::rest) env:=by
 intro a w hh;refine wpStill_step fun K hK=> ?_;rw[if_neg (by rw[hw a w hh];simp),hd];exact hK _ (h _ _ (hh.put d undef hlt))
theorem t2A {id:Nat} {l:List Oper} (n:Nat) (hm:c.P.follows .mixedOrders=true) (hB:Region.lexTailB .any l.toArray n=true)
 (h:OS c l.toArray L (fun env'=>OW c l.toArray Q (l.drop n) env' L) (l.take n) env):CW c (.region id l.toArray true) Q env L:=by
 intro a w hh;refine wp_region_still_tail n hm hB ?_;have h1:=h a w.drew hh.drew;have mono: ∀(l':List Oper) (a:Act) (K K':Act→Prop),(∀a,K a→K' a)→wpStill c.P l.toArray w.drew K l' a→wpStill c.P l.toArray w.drew K' l' a:=by
  intro l'
  induction l' with
  |nil=>intro a K K' hK h;exact hK _ h
  |cons o r ih=>
   intro a K K' hK h;unfold wpStill at h ⊢;split
   ·rename_i hw;rw[if_pos hw]at h;exact Oper.still_mono (fun a' h'=>ih a' K K' hK h') h
   ·rename_i hw;rw[if_neg hw]at h;exact ih _ K K' hK h
 refine mono _ a _ _ ?_ h1;rintro a' ⟨env',hq,hh'⟩;exact hq a' _ hh'
theorem t2B {id:Nat} {l:List Oper} (hm:c.P.follows .mixedOrders=true) (hB:Region.lexB .any l.toArray=true)
 (h:OS c l.toArray L (fun env'=>KW c Q .normal env' L) l env):CW c (.region id l.toArray true) Q env L:=by
 intro a w hh;refine wp_region_still_lit hm hB ?_;have h1:=h a w.drew hh.drew;have mono: ∀(l':List Oper) (a:Act) (K K':Act→Prop),(∀a,K a→K' a)→wpStill c.P l.toArray w.drew K l' a→wpStill c.P l.toArray w.drew K' l' a:=by
  intro l'
  induction l' with
  |nil=>intro a K K' hK h;exact hK _ h
  |cons o r ih=>
   intro a K K' hK h;unfold wpStill at h ⊢;split
   ·rename_i hw;rw[if_pos hw]at h;exact Oper.still_mono (fun a' h'=>ih a' K K' hK h') h
   ·rename_i hw;rw[if_neg hw]at h;exact ih _ K K' hK h
 refine mono _ a _ _ ?_ h1;rintro a' ⟨env',hq,hh'⟩;exact hq a' _ hh'
end
theorem wTT {b:Bool} (h:b=true):(b == true)=true:=by rw[h];rfl
theorem wFF {b:Bool} (h:b=false):(b == false)=true:=by rw[h];rfl
theorem wTF {b:Bool} (h:b=false):(b == true)=false:=by rw[h];rfl
theorem wFT {b:Bool} (h:b=true):(b == false)=false:=by rw[h];rfl
section
variable {P:Program} {n:Nat} {w0:World} {Q:Exit→Act→World→Prop} {env:List (Nat×Value)} {L:List a0E} {fn:Func} {F:a0E} {c:Cx}
theorem b0A.back {L N R:List a0E} {A:a0E} (h:b0A L (A::N) R):b0A L (N++ [A]) R:=List.Perm.trans h ((List.perm_append_comm (l₁:= [A]) (l₂:=N)).append_right R)
theorem g1H {v u:Value} {N R:List a0E} (hq: ∀a w,BP P fn (a0T v N) F w0 .ret a w→Q .ret a w) (hv:q0H fn env=some u) (hu:u=v) (hL:b0A L (F::N) R):CW ⟨P,n,[],w0⟩ .ret Q env L:=
 s0A (k1T hq hv hL.back ⟨by rw[hu],rfl⟩)
theorem d0Q {v u:Value} {N R:List a0E} (hv:q0H fn env=some u) (hu:u=v) (hL:b0A L (F::N) R):KW ⟨P,n,[],w0⟩ (BP P fn (a0T v N) F w0) .normal env L:=
 x0Q hv hL.back ⟨by rw[hu],rfl⟩
theorem g1I {X:Type} {p:X→Prop} {v:X→Value} {N:X→List a0E} {u:Value} {R:List a0E} (x:X) (hx:p x) (hq: ∀a w,BP P fn (b0P p v N) F w0 .ret a w→Q .ret a w) (hv:q0H fn env=some u) (hu:u=v x) (hL:b0A L (F::N x) R):CW ⟨P,n,[],w0⟩ .ret Q env L:=
 s0A (k1T hq hv hL.back ⟨x,hx,by rw[hu],rfl⟩)
theorem a2S {X:Type} {p:X→Prop} {v:X→Value} {N:X→List a0E} {u:Value} {R:List a0E} (x:X) (hx:p x) (hv:q0H fn env=some u) (hu:u=v x) (hL:b0A L (F::N x) R):KW ⟨P,n,[],w0⟩ (BP P fn (b0P p v N) F w0) .normal env L:=
 x0Q hv hL.back ⟨x,hx,by rw[hu],rfl⟩
theorem k1U {y:Code} {L':List a0E} (h:L=L') (k:CW c y Q env L'):CW c y Q env L:=h▸k
theorem r0I {x y:Code} {Q:Exit→Act→World→Prop} (e':List (Nat×Value)) (L':List a0E) (h1:CW c x (Exit.then (fun a w=>b0J c e' L' a w) Q) env L) (h2:CW c y Q e' L'):CW c (x.seq y) Q env L:=by
 refine s1M fun a w hh=>wp_mono (h1 a w hh) ?_;intro e a' w' q;cases e with
 |normal=>exact h2 _ _ q
 |exit _=>exact q
 |goto _=>exact q
 |ret=>exact q
 |panic _=>exact q
 |outgrown=>exact q
theorem j0D {X:Type} {x y:Code} {Q:Exit→Act→World→Prop} (e':X→List (Nat×Value)) (L':X→List a0E) (h1:CW c x (Exit.then (fun a w=> ∃z,b0J c (e' z) (L' z) a w) Q) env L) (h2: ∀z,CW c y Q (e' z) (L' z)):CW c (x.seq y) Q env L:=by
 refine s1M fun a w hh=>wp_mono (h1 a w hh) ?_;intro e a' w' q;cases e with
 |normal=>obtain⟨z,q⟩:=q;exact h2 z _ _ q
 |exit _=>exact q
 |goto _=>exact q
 |ret=>exact q
 |panic _=>exact q
 |outgrown=>exact q
theorem n2R {X:Type} {e:Exit} {e':X→List (Nat×Value)} {L':X→List a0E} {R:List a0E} {Q:Exit→Act→World→Prop} (hq: ∀a w,(∃z,b0J c (e' z) (L' z) a w)→Q e a w) (z:X) (he:Sub env (e' z)) (hL:b0A L (L' z) R):KW c Q e env L:=fun a w hh=>hq a w ⟨z,hh.weaken he.le ⟨R,hL⟩⟩
theorem h0W {e:Exit} {e':List (Nat×Value)} {L' R:List a0E} {Q:Exit→Act→World→Prop} (hq: ∀a w,b0J c e' L' a w→Q e a w) (he:Sub env e') (hL:b0A L L' R):KW c Q e env L:=fun a w hh=>hq a w (hh.weaken he.le ⟨R,hL⟩)
theorem e1A {X:Type} {e:Exit} {E:X→List (Nat×Value)} {M:X→List a0E} {μ:X→Nat} {m:Nat} {R:List a0E} {Q:Exit→Act→World→Prop} (hq: ∀a w,(∃z,b0J c (E z) (M z) a w∧μ z<m)→Q e a w) (z:X) (hμ:μ z<m) (he:Sub env (E z)) (hL:b0A L (M z) R):KW c Q e env L:=fun a w hh=>hq a w ⟨z,hh.weaken he.le ⟨R,hL⟩,hμ⟩
end
inductive RV (c:Cx) (env:List (Nat×Value)) (L:List a0E):List ResultVar→List Value→Prop
 |nil:RV c env L [] []
 |tmp {t v r vs} (h:c0E env t=some v) (k:RV c env L r vs):RV c env L (.tmp t::r) (v::vs)
 |cell {t ty b o cs e fr M v r vs} (ht:f0Q c.P ty=true) (h:c0E env t=some (.pointer (some ⟨b,o,none⟩))) [hL:o0G L b (.cells (List.toArray cs) e fr) M] (hv:nth cs o=some v) (k:RV c env L r vs):RV c env L (.cell t ty::r) (v::vs)
 |agg {t ty b o n cs e fr M v r vs} (ht:o0N c.P ty n=true) (h:c0E env t=some (.pointer (some ⟨b,o,none⟩))) [hL:o0G L b (.cells cs e fr) M] (hn:o+n≤cs.size) (hv:cs.extract o (o+n)=v) (k:RV c env L r vs):RV c env L (.cell t ty::r) (.agg v::vs)
def b1H:List Value→Value
 | [v]=>v
 |vs=> .tuple vs.toArray
def k1V (tmps:Array Value):ResultVar→Sem Value
 | .tmp t=>pure (tmps.getD t undef)
 | .cell p t=>do loadVar t (←asAddr (tmps.getD p undef))
theorem RV.runs {c:Cx} {env:List (Nat×Value)} {L:List a0E} {a:Act} {w:World} (hh:b0J c env L a w): ∀ {rs:List ResultVar} {vs:List Value},RV c env L rs vs→(rs.mapM (k1V a.tmps)).run c.P w= .ok vs w:=by
 intro rs vs h
 induction h with
 |nil=>simp
 |tmp h k ih=>rw[List.mapM_cons];simp[Sem.run_bind,k1V,hh.slots _ _ h,ih]
 |cell ht h hv k ih=>
  rename_i hL;have hb:=(hL.sat hh.sat).pts;rw[e0F]at hv;have h1:=hh.slots _ _ h;rw[List.mapM_cons];simp[Sem.run_bind,k1V,h1,asAddr,loadVar,k0Z ht,World.cell?,hb,hv,ih]
 |agg ht h hn hv k ih=>
  rename_i hL;have hb:=(hL.sat hh.sat).pts;have h1:=hh.slots _ _ h;rw[List.mapM_cons];simp[Sem.run_bind,k1V,h1,asAddr,loadVar,j0A ht,j0H ht,g0U hb hn,hv,ih]
theorem RV.res {c:Cx} {env:List (Nat×Value)} {L:List a0E} {a:Act} {w:World} {fn:Func} {vs:List Value} (hh:b0J c env L a w) (h:RV c env L fn.results.toList vs):(results fn a.tmps).run c.P w= .ok (b1H vs) w:=by
 have e:results fn a.tmps=(do let vs←fn.results.mapM (k1V a.tmps);pure (if h:vs.size=1 then vs[0]else .tuple vs)):=by
  unfold results;congr 1
 rw[e,Array.mapM_eq_mapM_toList];have:=RV.runs hh h;simp only[Sem.run_bind,Sem.run_map,this,Result.andThen_ok];cases vs with
 |nil=>simp[b1H]
 |cons v vs=>cases vs<;>simp[b1H]
section
variable {P:Program} {n:Nat} {w0:World} {Q:Exit→Act→World→Prop} {env:List (Nat×Value)} {L:List a0E} {fn:Func} {F:a0E} {Post:Ending→List a0E→Prop}
theorem n1L {e:Exit} (hq: ∀a w,BP P fn Post F w0 .ret a w→Q e a w) {vs:List Value} (hv:RV ⟨P,n,[],w0⟩ env L fn.results.toList vs) {L' R:List a0E} (hL:b0A L (F::L') R) (hp:Post (.returned (b1H vs)) L'):KW ⟨P,n,[],w0⟩ Q e env L:=by
 intro a w hh;have hs:Sat w (L'++ [F]):=((hh.sat.perm hL.back).perm List.perm_append_comm).drop;exact hq a w ⟨hh.defers,_,hv.res hh,L',hp,hs,hh.like⟩
theorem q0L {v:Value} {N R:List a0E} (hq: ∀a w,BP P fn (a0T v N) F w0 .ret a w→Q .ret a w) {us:List Value} (hv:RV ⟨P,n,[],w0⟩ env L fn.results.toList us) (hu:b1H us=v) (hL:b0A L (F::N) R):CW ⟨P,n,[],w0⟩ .ret Q env L:=
 s0A (n1L hq hv hL ⟨by rw[hu],rfl⟩)
theorem c0T {X:Type} {p:X→Prop} {v:X→Value} {N:X→List a0E} {us:List Value} {R:List a0E} (x:X) (hx:p x) (hq: ∀a w,BP P fn (b0P p v N) F w0 .ret a w→Q .ret a w) (hv:RV ⟨P,n,[],w0⟩ env L fn.results.toList us) (hu:b1H us=v x) (hL:b0A L (F::N x) R):CW ⟨P,n,[],w0⟩ .ret Q env L:=
 s0A (n1L hq hv hL ⟨x,hx,by rw[hu],rfl⟩)
end
end
section
def b0T (Q:Exit→Act→World→Prop):Prop:= ∀ch (a:Act) (d:Option Tmp) (v:Value) (w:World),Q (.panic ch) (a.put d v) w→Q (.panic ch) a w
theorem k1W (a:Act) (d:Option Tmp) (v:Value):(a.put d v).defers=a.defers:=by cases d<;>rfl
theorem b0T.then {R:Act→World→Prop} {Q:Exit→Act→World→Prop} (h:b0T Q):b0T (Exit.then R Q):=h
theorem b0T.inBlock {id:Nat} {Q:Exit→Act→World→Prop} (h:b0T Q):b0T (Exit.inBlock id Q):=h
theorem b0T.bp {P:Program} {fn:Func} {Post:Ending→List a0E→Prop} {F:a0E} {w0:World} :b0T (BP P fn Post F w0):=fun ch a d v w h=>by
 obtain⟨h1,h2⟩:=(h:(a.put d v).defers= []∧_);exact⟨by rw[←k1W a d v];exact h1,h2⟩
inductive l0A where
 |done
 |soft (i:Nat) (p:l0A)
 |hard (i:Nat) (p:l0A)
 |two (i:Nat) (p:l0A) (j:Nat) (q:l0A)
 |three (i:Nat) (p:l0A) (j:Nat) (q:l0A) (k:Nat) (r:l0A)
 |four (i:Nat) (p:l0A) (j:Nat) (q:l0A) (k:Nat) (r:l0A) (m:Nat) (s:l0A)
def l0A.len:l0A→Nat
 | .done=>0
 | .soft _ p| .hard _ p| .two _ p _ _| .three _ p _ _ _ _| .four _ p _ _ _ _ _ _=>p.len+1
def l0P (ops:Array Oper):l0A→Array Bool→Bool
 | .done,l=>(Region.ready .any ops l).isEmpty
 | .soft i p,l=>Region.free .any ops l i&&((Region.ready .any ops l).contains i&&l0P ops p (l.setIfInBounds i true))
 | .hard i p,l=>(match Region.ready .any ops l with| [j]=>Nat.beq j i|_=>false)&&l0P ops p (l.setIfInBounds i true)
 | .two i p j q,l=>(match Region.ready .any ops l with| [x,y]=>Nat.beq x i&&Nat.beq y j|_=>false)&&(Nat.beq p.len q.len&&(l0P ops p (l.setIfInBounds i true)&&l0P ops q (l.setIfInBounds j true)))
 | .three i p j q k r,l=>(match Region.ready .any ops l with| [x,y,z]=>Nat.beq x i&&(Nat.beq y j&&Nat.beq z k)|_=>false)&&
  (Nat.beq p.len q.len&&(Nat.beq p.len r.len&&(l0P ops p (l.setIfInBounds i true)&&(l0P ops q (l.setIfInBounds j true)&&l0P ops r (l.setIfInBounds k true)))))
 | .four i p j q k r m s,l=>(match Region.ready .any ops l with| [x,y,z,u]=>Nat.beq x i&&(Nat.beq y j&&(Nat.beq z k&&Nat.beq u m))|_=>false)&&
  (Nat.beq p.len q.len&&(Nat.beq p.len r.len&&(Nat.beq p.len s.len&&(l0P ops p (l.setIfInBounds i true)&&(l0P ops q (l.setIfInBounds j true)&&(l0P ops r (l.setIfInBounds k true)&&l0P ops s (l.setIfInBounds m true)))))))
def q0M (c:Cx) (K:List a0E) (w:World):Prop:=Sat w K∧d0S c.w0 w
def OM (c:Cx) (ops:Array Oper) (Q:Exit→Act→World→Prop) (K:List a0E) (steps:l0A) (env:List (Nat×Value)) (L:List a0E):Prop:=
 ∀(l:Array Bool) (a:Act) (w:World),l0P ops steps l=true→Region.noSelect ops=true→b0T Q→b0J c env L a w→Sat w K→wpAnyH c.P .any ops Q (q0M c K) steps.len l a w
def KM (c:Cx) (ops:Array Oper) (Q:Exit→Act→World→Prop) (K:List a0E) (steps:l0A) (a:Act) (w:World):Prop:=
 q0M c K w∧ ∀(l:Array Bool),l0P ops steps l=true→Region.noSelect ops=true→b0T Q→wpAnyH c.P .any ops Q (q0M c K) steps.len l a w
section
variable {c:Cx} {ops:Array Oper} {Q:Exit→Act→World→Prop} {K:List a0E} {steps:l0A} {env:List (Nat×Value)} {L:List a0E}
 {d:Tmp} {op:Op} {ty:TypeId} {pos:String} {af:Array Edge} {i:Nat}
theorem x2C (h:KW c Q .normal env L):OM c ops Q K .done env L:=by
 intro l a w hB _ _ hh _;simp only[l0P,List.isEmpty_iff]at hB;exact wpAnyH_done hB (h a w hh) _
theorem n1M {o:Oper} {v:Value} (hi:ops[i]? =some o) (hod:o.dst=some d) (hy: ∀a w,b0J c env K a w→YieldsIf c.P ops (q0M c K) o v a) (h:OM c ops Q K steps ((d,v)::env) L) (hd:Nat.blt d c.n=true):
 OM c ops Q K (.soft i steps) env L:=by
 intro l a w hB hs hQ hh hK;simp only[l0P,Bool.and_eq_true]at hB;have hh':b0J c env K a w:=⟨hh.size,hh.slots,hh.defers,hK,hh.like⟩;refine wpAnyH_take (v:=v) hi hs hB.1 hB.2.1 (fun ch a w=>hQ ch a _ _ w) (hy a w hh') ⟨hK,hh.like⟩ ?_;rw[hod];exact h _ _ w hB.2.2 hs hQ (hh.put d v hd) hK
theorem d0A {v:Value} (hi:ops[i]? =some ⟨some d,op,ty,pos,af,none⟩) (hy:a0P c ⟨some d,op,ty,pos,af,none⟩ env K v) (h:OM c ops Q K steps ((d,v)::env) L) (hd:Nat.blt d c.n=true:=by rfl):OM c ops Q K (.soft i steps) env L:=
 n1M hi rfl (fun a _ hh=> .inl ⟨rfl,fun w' hk=>hy a w' ⟨hh.size,hh.slots,hh.defers,hk.1,hk.2⟩⟩) h hd
theorem t0D {v:Value} {gd:Nat×Bool} (hi:ops[i]? =some ⟨some d,op,ty,pos,af,some gd⟩) (hy:a0P c ⟨some d,op,ty,pos,af,some gd⟩ env K v)
 (hw: ∀a w,b0J c env K a w→Region.wanted ⟨some d,op,ty,pos,af,some gd⟩ (yielded ops a.tmps)=true) (h:OM c ops Q K steps ((d,v)::env) L) (hd:Nat.blt d c.n=true:=by rfl):OM c ops Q K (.soft i steps) env L:=
 n1M hi rfl (fun a w hh=> .inl ⟨hw a w hh,fun w' hk=>hy a w' ⟨hh.size,hh.slots,hh.defers,hk.1,hk.2⟩⟩) h hd
theorem t2C {o:Oper} (hi:ops[i]? =some o) (hod:o.dst=some d) (hw: ∀a w,b0J c env K a w→Region.wanted o (yielded ops a.tmps)=false) (h:OM c ops Q K steps ((d,undef)::env) L) (hd:Nat.blt d c.n=true:=by rfl):
 OM c ops Q K (.soft i steps) env L:=
 n1M hi hod (fun a w hh=> .inr ⟨hw a w hh,rfl⟩) h hd
theorem n1N (P:Program) (o:Oper) (a:Act) (w:World) (N X:Act→World→Prop):o.wp P a w N (Exit.then X Q)=o.wp P a w N Q:=by
 unfold Oper.wp Oper.upon;split<;>rfl
theorem d2O {o:Oper} {l:Array Bool} {a:Act} {w:World} (hi:ops[i]? =some o) (h:OW c ops (Exit.then (KM c ops Q K steps) Q) [o] env L) (h2:l0P ops steps (l.setIfInBounds i true)=true) (hs:Region.noSelect ops=true) (hQ:b0T Q) (hh:b0J c env L a w):
 wpOp c.P ops Q i (fun a' w'=>q0M c K w'∧wpAnyH c.P .any ops Q (q0M c K) steps.len (l.setIfInBounds i true) a' w') a w:=by
 have hw:=h a w hh;unfold wpOp;simp only[hi];unfold wpList at hw;have hconv: ∀a' w',wpList c.P ops (Exit.then (KM c ops Q K steps) Q) [] a' w'→q0M c K w'∧wpAnyH c.P .any ops Q (q0M c K) steps.len (l.setIfInBounds i true) a' w':=by
  intro a' w' hx;have hx':KM c ops Q K steps a' w':=hx;exact⟨hx'.1,hx'.2 _ h2 hs hQ⟩
 split
 ·rename_i hwant;rw[if_pos hwant]at hw;rcases hw with hw| ⟨ha,hl⟩
  ·left;rw[n1N]at hw;exact Oper.wp_mono hconv hw
  ·exact .inr ⟨ha,hl⟩
 ·rename_i hwant;rw[if_neg hwant]at hw;exact hconv _ _ hw
theorem om_h {o:Oper} (hi:ops[i]? =some o) (h:OW c ops (Exit.then (KM c ops Q K steps) Q) [o] env L):OM c ops Q K (.hard i steps) env L:=by
 intro l a w hB hs hQ hh hK;simp only[l0P,Bool.and_eq_true]at hB;obtain⟨h1,h2⟩:=hB;split at h1
 ·rename_i j hr;have:j=i:=Nat.eq_of_beq_eq_true h1;subst this;refine wpAnyH_all hr (by simp) ?_;intro k hk;simp only[List.mem_singleton]at hk;subst hk;exact d2O hi h h2 hs hQ hh
 ·cases h1
theorem p0R {p q:l0A} {j:Nat} {o o':Oper} (hi:ops[i]? =some o) (hj:ops[j]? =some o') (h:OW c ops (Exit.then (KM c ops Q K p) Q) [o] env L) (h':OW c ops (Exit.then (KM c ops Q K q) Q) [o'] env L):OM c ops Q K (.two i p j q) env L:=by
 intro l a w hB hs hQ hh hK;simp only[l0P,Bool.and_eq_true]at hB;obtain⟨h1,hl,h2,h3⟩:=hB;have hl:=Nat.eq_of_beq_eq_true hl;split at h1
 ·rename_i x y hr;simp only[Bool.and_eq_true]at h1;have e1:=Nat.eq_of_beq_eq_true h1.1;have e2:=Nat.eq_of_beq_eq_true h1.2;subst e1;subst e2;refine wpAnyH_all hr (by simp) ?_;intro k hk;simp only[List.mem_cons,List.not_mem_nil,or_false]at hk;rcases hk with rfl|rfl
  ·exact d2O hi h h2 hs hQ hh
  ·rw[hl];exact d2O hj h' h3 hs hQ hh
 ·cases h1
theorem t2D {R:List a0E} (hK:b0A L K R) (h:OM c ops Q K steps env L):KW c (Exit.then (KM c ops Q K steps) Q) .normal env L:=by
 intro a w hh;have hs:Sat w K:=((hh.sat.perm hK).perm List.perm_append_comm).drop;exact⟨⟨hs,hh.like⟩,fun l hB hn hQ=>h l a w hB hn hQ hh hs⟩
theorem x2D {id:Nat} {l:List Oper} {R:List a0E} (steps:l0A) (K:List a0E) (hm:c.P.follows .mixedOrders=true)
 (hB:(Region.noSelect l.toArray&&(Nat.beq steps.len l.length&&l0P l.toArray steps (Array.replicate l.length false)))=true) (hQ:b0T Q) (hK:b0A L K R) (h:OM c l.toArray Q K steps env L):CW c (.region id l.toArray true) Q env L:=by
 intro a w hh;simp only[Bool.and_eq_true]at hB;have hh':=hh.drew;have hs:Sat w.drew K:=((hh'.sat.perm hK).perm List.perm_append_comm).drop;have h1:=h _ a w.drew hB.2.2 hB.1 hQ hh' hs;refine wp_region_held (S:=q0M c K) hm ?_;have e:steps.len=l.toArray.size:=by simpa using Nat.eq_of_beq_eq_true hB.2.1
 rw[←e];have e2:Array.replicate steps.len false=Array.replicate l.length false:=by rw[Nat.eq_of_beq_eq_true hB.2.1]
 rw[e2];exact h1
end
end
end Go.Sl

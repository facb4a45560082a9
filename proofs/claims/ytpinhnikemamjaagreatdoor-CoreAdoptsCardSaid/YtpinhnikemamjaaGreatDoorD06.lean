/- Part of the proof; no statement of its own. -/
import Derived.Test.YtpinhnikemamjaaGreatDoorD05
import Derived.RangeFuncLeaves
import Derived.RangeFuncRecord
import Derived.TacticsIn
import Derived.Below
set_option linter.all false
set_option maxRecDepth 4000
set_option maxHeartbeats 4000000
namespace Go.Sl
section
abbrev FR (l:Nat):Fence:=Fence.wide.inRound l
def b1M (P:Program) (l:Nat) (args:Array Value) (Pre:List a0E) (Post:Ending→List a0E→Prop):Prop:=
 ∀w (F:a0E),Sat w (Pre++ [F])→ ∃f tmps assign body,(Instr.yield l args).run P w= .ok (.round l f tmps assign body) w∧
  RoundIn Fence.wide 0 P l f tmps assign body w fun e a=> ∃L',Post e L'∧Sat a (L'++ [F])∧d0S w a
section
variable {c:Cx} {ops:Array Oper} {Q:Exit→Act→World→Prop} {rest:List Oper} {env:List (Nat×Value)} {L:List a0E} {d:Tmp} {op:Op} {ty:TypeId} {pos:String} {af:Array Edge}
def OI (c:Cx) (ops:Array Oper) (Q:Exit→Act→World→Prop) (l:List Oper) (env:List (Nat×Value)) (L:List a0E):Prop:=
 ∀a w,b0J c env L a w→wpListIn Fence.wide 0 c.P ops Q l a w
theorem s1V (h:KW c Q .normal env L):OI c ops Q [] env L:=fun a w b=>wpListIn_nil (h a w b)
theorem u0G {v:Value} (f:a0P c ⟨some d,op,ty,pos,af,none⟩ env L v) (h:OI c ops Q rest ((d,v)::env) L) (hd:Nat.blt d c.n=true:=by rfl):OI c ops Q (⟨some d,op,ty,pos,af,none⟩::rest) env L:=by
 intro a w b;refine wpListIn_step fun K e=> ?_;rw[if_pos (by rfl)];refine⟨fun _ _=>trivial,?_⟩;show Oper.uponIn Fence.wide 0 c.P _ a K Q ((execOp a.eval _).run c.P w);rw[f a w b];exact e _ _ (h _ _ (b.put d v hd))
theorem i1S {fx:Operand} {l:Nat} {xs:List Operand} {ats:Array TypeId} {vs:List Value} {Pre M N:List a0E} {v:Value}
 (q:evo env fx=some (.func (.yield l) #[] #[])) (u:xs.mapM (evo env)=some vs) (t:b1M c.P l vs.toArray Pre (fun e L'=>e= .returned v∧L'=N)) (hL:b0A L Pre M)
 (h:OI c ops Q rest ((d,v)::env) (N++M)) (hd:Nat.blt d c.n=true:=by rfl):OI c ops Q (⟨some d,.call {callee:= .value fx,args:=xs.toArray,argTypes:=ats},ty,pos,af,none⟩::rest) env L:=by
 intro a w g;refine wpListIn_step fun K p=> ?_;rw[if_pos (by rfl)];refine⟨fun _ _=>trivial,?_⟩;have b:(xs.toArray.map a.eval)=vs.toArray:=by simp[s1B g _ _ u]
 have j:Sat w (Pre++ [b0E M]):=by
  have k:=g.sat.perm hL;have m:Sat w (b0E M::Pre):=b0M.2 (k.perm List.perm_append_comm);exact m.perm (List.perm_append_comm (l₁:= [b0E M]) (l₂:=Pre))
 obtain⟨f,tmps,assign,body,x,s⟩:=t w (b0E M) j;have i:(execOp a.eval ⟨some d,.call {callee:= .value fx,args:=xs.toArray,argTypes:=ats},ty,pos,af,none⟩).run c.P w= .ok (.round l f tmps assign body) w:=by
  simp only[execOp,resolve,b,g.eval q,Deferred.ofValue,Sem.run_bind,Sem.run_pure,Result.andThen_ok,invoke];simpa using x
 rw[show Oper.semAt Fence.wide.round a.eval ⟨some d,.call {callee:= .value fx,args:=xs.toArray,argTypes:=ats},ty,pos,af,none⟩=execOp a.eval ⟨some d,.call {callee:= .value fx,args:=xs.toArray,argTypes:=ats},ty,pos,af,none⟩from Oper.semAt_eq _ _ _ (fun c e=>by cases e)];rw[i,Oper.uponIn_round];refine⟨fun h=>absurd h (by decide),s.mono ?_⟩;rintro e y ⟨L',⟨rfl,rfl⟩,o,r⟩;have k:Sat y (b0E M::L'):=o.perm (List.perm_append_comm (l₁:=L') (l₂:= [b0E M]));have m:=(b0M.1 k).perm List.perm_append_comm;exact p _ _ (h _ _ (b0J.put (L:=L'++M) ⟨g.size,g.slots,g.defers,m,g.like.trans r⟩ d v hd))
theorem b1N {id:Nat} {l:List Oper} (h:OI c l.toArray Q l env L):CW c (.region id l.toArray false) Q env L:=fun a w b=>wpIn_wide.1 (wpIn_region_lit (h a w b))
variable {r:Nat} {x y body:Code}
def CR (r:Nat) (c:Cx) (b:Code) (Q:Exit→Act→World→Prop) (env:List (Nat×Value)) (L:List a0E):Prop:= ∀a w,b0J c env L a w→b.wpIn (FR r) 0 c.P Q a w
theorem s1W (h:CR r c x (Exit.then (y.wpIn (FR r) 0 c.P Q) Q) env L):CR r c (x.seq y) Q env L:=fun a w b=>wpIn_seq (h a w b)
theorem s2I {z:Operand} {b:Bool} (h:evo env z=some (.bool b)) (f:b=true→CR r c x Q env L) (g:b=false→CR r c y Q env L):CR r c (.cond z x y) Q env L:=by
 intro a w d;exact wpIn_cond_split (d.eval h) (fun e=>f e a w d) (fun e=>g e a w d)
theorem i1T {id:Nat} (h:CR r c body (Exit.inBlock id Q) env L):CR r c (.block id body) Q env L:=fun a w b=>wpIn_block (h a w b)
theorem a2U (h:KW c Q .normal env L):CR r c .skip Q env L:=fun a w b=>wpIn_skip (h a w b)
theorem t2G {id:Nat} (h:KW c Q (.exit id) env L):CR r c (.exit id) Q env L:=fun a w b=>wpIn_exit (h a w b)
theorem n1T {e:Exit} {b:Exit→Act→World→Prop} (f: ∀a w,y.wpIn (FR r) 0 c.P b a w→Q e a w) (h:CR r c y b env L):KW c Q e env L:=fun a w d=>f a w (h a w d)
theorem t2H {P:Program} {a:String} {args:Array Value} {w:World} {R:Value→World→Prop} (h:Rows P a args w R):RowsIn (FR r) 0 P a args w R:=
 fun c cs _=>let ⟨v,w',r,s⟩:=h c cs;⟨v,w',r,stepsIn_wide.2 s⟩
theorem t2I {P:Program} {o:Oper} {a:Act} {N d:Act→World→Prop} (c: ∀a w,N a w→d a w) (f: ¬LetsOut Q) {res:Result Next} (h:o.upon P a N Q res):o.uponIn (FR r) 0 P a d Q res:=by
 unfold Oper.upon at h;split at h
 ·exact c _ _ h
 ·exact c _ _ h
 ·exact c _ _ h
 ·refine⟨fun h=>(by cases h),callsIn_wide.2 (h.mono ?_)⟩;intro e g b;cases e with
  |returned v=>exact c _ _ b
  |panicked ch=>exact b
  |outgrown=>exact(f b).elim
 ·refine⟨fun h=>(by cases h),RowsIn.mono (t2H h) ?_⟩;exact fun v g b=>c _ _ b
 ·exact h
 ·exact h.elim
theorem n1U {P:Program} (b: ¬LetsOut Q): ∀(l:List Oper),(l.all fun o=>match o.op with| .defer _=>false|_=>true)=true→ ∀a w,wpList P ops Q l a w→wpListIn (FR r) 0 P ops Q l a w
 | [],_,a,w,h=>h
 |o::l,hd,a,w,h=>by
  simp only[List.all_cons,Bool.and_eq_true]at hd;unfold wpList at h;unfold wpListIn;split
  ·rename_i d;rw[if_pos d]at h;rcases h with h|h
   ·refine⟨fun _ _=>trivial,?_⟩;rw[Oper.semAt_eq _ _ _ (by intro c e;rw[e]at hd;exact Bool.noConfusion hd.1)];exact t2I (fun a w h=>n1U b l hd.2 a w h) b h
   ·exact(b h.2).elim
  ·rename_i d;rw[if_neg d]at h;exact⟨fun _ _=>trivial,n1U b l hd.2 _ _ h⟩
theorem p0A {id:Nat} {l:List Oper} (b: ¬LetsOut Q) (hd:(l.all fun o=>match o.op with| .defer _=>false|_=>true)=true) (h:OW c l.toArray Q l env L):CR r c (.region id l.toArray false) Q env L:=
 fun a w d=>wpIn_region_lit (n1U b l hd a w (h a w d))
theorem q0O {X:Act→World→Prop} (h: ¬LetsOut Q): ¬LetsOut (Exit.then X Q):=h
theorem p0B {id:Nat} (h: ¬LetsOut Q): ¬LetsOut (Exit.inBlock id Q):=h
theorem p0C {P:Program} {R:Ending→World→Prop} : ¬LetsOut (roundPost P r R):=fun⟨_,_,h⟩=>h
theorem v0N: ¬LetsOut (fun _ _ _=>False):=fun⟨_,_,h⟩=>h
theorem Sat.putL {w:World} {b:Nat} {o o':Obj} {L:List a0E} (h:Sat w (Sl.pts b o::L)):Sat (w.putObj b o') (Sl.pts b o'::L):=h.put
theorem u0H {w0 w:World} (h:d0S w0 w) (b:Nat) (o:Obj):d0S w0 (w.putObj b o):=⟨h.os,h.tape,h.output⟩
theorem i1U {rec:Loop} {M:List a0E} {X:Exit→Act→World→Prop} {d:Exit→Act→World→Prop} (f:rec.state= .ready) (hL:Fnd L (pts r (.loop rec)) M) (h:CR r c body d env (pts r (.loop {rec with state:= .busy})::M)):
 KW c (Exit.then (fun a w=> ∃w₂,(Instr.beginRound r).run c.P w= .ok () w₂∧body.wpIn (FR r) 0 c.P d a w₂) X) .normal env L:=by
 intro a w b;have e:=hL.sat b.sat;exact⟨_,run_beginRound e.pts f,h _ _ ⟨b.size,b.slots,b.defers,e.putL,u0H b.like _ _⟩⟩
theorem z0R {P:Program} {n:Nat} {rec:Loop} {p:Tmp} {v:Value} {Pre:List a0E} {Post:Ending→List a0E→Prop} (b:rec.params= #[p]) (c:rec.tmps.size=n) (i: ∀t u,c0E env t=some u→rec.tmps[t]? =some u) (o:Nat.blt p n=true)
 (h: ∀F w0,CR r ⟨P,n,[],w0⟩ rec.assign (Exit.then (fun a w=> ∃w₂,(Instr.beginRound r).run P w= .ok () w₂∧rec.body.wpIn (FR r) 0 P (roundPost P r fun e k=> ∃L',Post e L'∧Sat k (L'++ [F])∧d0S w0 k) a w₂) (fun _ _ _=>False)) ((p,v)::env) (pts r (.loop rec)::Pre++ [F])):
 b1M P r #[v] (pts r (.loop rec)::Pre) Post:=by
 intro w F j;have g:Sat w (pts r (.loop rec)::(Pre++ [F])):=j;have q:=run_yield (P:=P) (args:= #[v]) g.pts (by rw[b];rfl);refine⟨_,_,_,_,q,roundIn_of_wpIn trivial ?_⟩;refine h F w _ w ⟨?_,?_,rfl,j,d0S.refl w⟩
 ·rw[b];simp[c]
 ·intro t u d;have m:(Array.foldl (fun(tmps:Array Value) (x:Tmp×Value)=>match x with| (t,a)=>tmps.setIfInBounds t a) rec.tmps (#[p].zip #[v]))=rec.tmps.setIfInBounds p v:=by simp
  simp only[b];rw[show((Array.foldl (fun(tmps:Array Value) (x:Tmp×Value)=>match x with| (t,a)=>tmps.setIfInBounds t a) rec.tmps (#[p].zip #[v]))[t]? =some u)=((rec.tmps.setIfInBounds p v)[t]? =some u) by rw[m]];have f:p<rec.tmps.size:=by rw[c];exact Nat.lt_of_succ_le (by simpa [Nat.blt] using o)
  rw[Array.getElem?_setIfInBounds];unfold c0E at d;split at d
  ·rename_i e;cases d
   have:p=t:=Nat.eq_of_beq_eq_true e;rw[if_pos this,if_pos f]
  ·rename_i e;have: ¬p=t:=fun l=>by rw[l]at e;simp at e
   rw[if_neg this];exact i t u d
theorem m0I {id:Nat} (h:KW c Q .normal env L):KW c (Exit.inBlock id Q) .normal env L:=h
theorem q0P {id:Nat} {X:Act→World→Prop} (h:KW c Q (.exit id) env L):KW c (Exit.then X Q) (.exit id) env L:=h
theorem n0X {i id:Nat} (b:(i == id)=false) (h:KW c Q (.exit i) env L):KW c (Exit.inBlock id Q) (.exit i) env L:=fun a w f=>by
 have d:=h a w f;have e: ¬i=id:=by simpa using b
 unfold Exit.inBlock;simp only[e,if_false];exact d
theorem y0X {w0:World} {rec:Loop} {M:List a0E} {F:a0E} {Post:Ending→List a0E→Prop} (hL:Fnd L (pts r (.loop rec)) M)
 (i: ∀w,Sat w (pts r (.loop {rec with state:= .ready,pending:=none})::M)→ ∃L',Post (.returned (.bool true)) L'∧Sat w (L'++ [F])) (j:c.w0=w0):KW c (roundPost c.P r fun e f=> ∃L',Post e L'∧Sat f (L'++ [F])∧d0S w0 f) .normal env L:=by
 intro a w d;have b:=hL.sat d.sat;obtain⟨L',g,h⟩:=i _ b.putL;exact⟨_,_,run_endRound none b.pts,L',g,h,j▸u0H d.like _ _⟩
theorem d2V {w0:World} {rec:Loop} {M:List a0E} {F:a0E} {Post:Ending→List a0E→Prop} {id:Nat} (hL:Fnd L (pts r (.loop rec)) M)
 (i: ∀w,Sat w (pts r (.loop {rec with state:= .done,pending:=some (.exit id)})::M)→ ∃L',Post (.returned (.bool false)) L'∧Sat w (L'++ [F])) (j:c.w0=w0):KW c (roundPost c.P r fun e f=> ∃L',Post e L'∧Sat f (L'++ [F])∧d0S w0 f) (.exit id) env L:=by
 intro a w d;have b:=hL.sat d.sat;obtain⟨L',g,h⟩:=i _ b.putL;exact⟨_,_,run_endRound (some (.exit id)) b.pts,L',g,h,j▸u0H d.like _ _⟩
abbrev i0H (D:Nat):Deferred:= {target:= .collected D,args:= #[]}
def j0B (rec:Loop) (x:Option Code):Loop:= {rec with state:=if x.isNone then .ready else .done,pending:=x}
theorem i1V {P:Program} {n:Nat} {w0:World} {g:Operand} {j:FuncId} {i:List Value} {p:Tmp} {assign:Code} {Pre M:List a0E} {X:Type} {ok:X→Prop} {v:X→Value} {jump:X→Option Code} {N:X→List a0E}
 (T:evo env g=some (.func (.func j) #[] i.toArray)) (hb:f0H P j=true) (hL:b0A L Pre M)
 (E: ∀(l D fn:Nat) (tmps:Array Value),tmps.size=n→(∀t u,c0E env t=some u→tmps[t]? =some u)→ ∀rec:Loop,rec= {state:= .ready,pending:=none,fn,tmps,params:= #[p],assign,body,defers:=D} →
  a0G P j (.func (.yield l) #[] #[]::i).toArray (pts l (.loop rec)::Pre) (b0P ok v (fun x=>pts l (.loop (j0B rec (jump x)))::N x)))
 (r: ∀(D:Nat) (x:X),ok x→jump x=none→KW ⟨P,n,[i0H D],w0⟩ Q .normal env (pts D (.deferred (some []))::(N x++M)))
 (s: ∀(D:Nat) (x:X) (k:Code),ok x→jump x=some k→CW ⟨P,n,[i0H D],w0⟩ k Q env (pts D (.deferred (some []))::(N x++M))):
 CW ⟨P,n,[],w0⟩ (.rangeFunc g #[p] assign body) Q env L:=by
 intro a w c;refine wpIn_wide.1 (wpIn_rangeFunc (n:=0) ?_);intro fn _;obtain⟨rec,f⟩: ∃rec:Loop,rec= {state:= .ready,pending:=none,fn,tmps:=a.tmps,params:= #[p],assign,body,defers:=w.heap.size} :=⟨_,rfl⟩;have e0:=run_enterLoop_outer (P:=P) (w:=w) fn a.tmps #[p] assign body;rw[←f]at e0;obtain⟨b,m⟩: ∃b,(w.alloc (.deferred (some []))).alloc (.loop rec)=b:=⟨_,rfl⟩;rw[m]at e0;have H:Sat b (pts (w.heap.size+1) (.loop rec)::pts w.heap.size (.deferred (some []))::L):=by
  rw[←m];have B:=c.sat.alloc (.deferred (some []));have C:=B.alloc (.loop rec)
  rwa [World.size_alloc]at C
 have F:d0S w0 b:=by rw[←m];exact(c.like.alloc _).alloc _
 have q:(callFunc j (.func (.yield (w.heap.size+1)) #[] #[]::i).toArray).run P b= .ok (.enter j (.func (.yield (w.heap.size+1)) #[] #[]::i).toArray) b:=t0C hb _ _;refine⟨w.heap.size+1,[i0H w.heap.size],b,{target:= .fn (.func j) i.toArray,args:= #[.func (.yield (w.heap.size+1)) #[] #[]]},b,j,(.func (.yield (w.heap.size+1)) #[] #[]::i).toArray,b,?_,?_,fun _ _=>trivial,?_,fun h=>absurd h (by decide),?_⟩
 ·exact e0
 ·simp only[resolve,c.eval T];simp[Deferred.ofValue,Sem.run_pure,Act.eval]
 ·simp only[invoke];have:(#[Value.func (.yield (w.heap.size+1)) #[] #[]]++i.toArray)=(.func (.yield (w.heap.size+1)) #[] #[]::i).toArray:=by simp
  rw[this];exact q
 ·refine callsIn_wide.2 ?_;have y:Sat b ((pts (w.heap.size+1) (.loop rec)::Pre)++ [b0E (pts w.heap.size (.deferred (some []))::M)]):=by
   have B:Sat b (pts (w.heap.size+1) (.loop rec)::pts w.heap.size (.deferred (some []))::(Pre++M)):=H.perm (List.Perm.cons _ (List.Perm.cons _ hL));have C:Sat b ((pts w.heap.size (.deferred (some []))::M)++(pts (w.heap.size+1) (.loop rec)::Pre)):=B.perm (by
    refine List.Perm.trans ?_ List.perm_append_comm;refine List.Perm.cons _ ?_;exact List.perm_middle.symm)
   exact(b0M.2 C).perm (List.perm_append_comm (l₁:= [b0E _]))
  refine(E (w.heap.size+1) w.heap.size fn a.tmps c.size c.slots rec f b _ y).mono ?_;rintro e J ⟨L',⟨x,O,rfl,rfl⟩,I,G⟩;have R:Sat J (b0E (pts w.heap.size (.deferred (some []))::M)::(pts (w.heap.size+1) (.loop (j0B rec (jump x)))::N x)):=I.perm (List.perm_append_comm (l₂:= [b0E _]));have K:Sat J (pts (w.heap.size+1) (.loop (j0B rec (jump x)))::(pts w.heap.size (.deferred (some []))::(N x++M))):=(b0M.1 R).perm (by
   refine List.Perm.trans List.perm_append_comm ?_;refine List.Perm.cons _ ?_;exact List.perm_middle)
  have S:=run_endLoop (P:=P) K.pts (by unfold j0B;simp only;split<;>simp);have z:=(K.putL (o':= .loop {j0B rec (jump x)with state:= .exhausted})).tail;have d:=u0H (F.trans G) (w.heap.size+1) (.loop {j0B rec (jump x)with state:= .exhausted});refine⟨_,_,S,?_⟩;cases A:jump x with
  |none=>
   show Q .normal _ _;rw[A]at z d;exact r _ x O A _ _ ⟨c.size,c.slots,by show [i0H _]++a.defers=_;rw[c.defers];rfl,z,d⟩
  |some k=>
   show k.wpIn Fence.wide 0 P Q _ _;rw[A]at z d;exact wpIn_wide.2 (s _ x k O A _ _ ⟨c.size,c.slots,by show [i0H _]++a.defers=_;rw[c.defers];rfl,z,d⟩)
end
theorem Sat.sub {w:World} {L N M:List a0E} (h:Sat w L) (hL:b0A L N M):Sat w N:=((h.perm hL).perm List.perm_append_comm).drop
theorem n1V {P:Program} {f:FuncId} {args:Array Value} {Pre Pre':List a0E} {Post Post':Ending→List a0E→Prop} (b: ∀w F,Sat w (Pre'++ [F])→Sat w (Pre++ [F])) (h:a0G P f args Pre Post)
 (a: ∀e L,Post e L→ ∃L',Post' e L'∧ ∀w F,Sat w (L++ [F])→Sat w (L'++ [F])):a0G P f args Pre' Post':=fun w F k=>(h w F (b w F k)).mono fun e l ⟨L,j,g,i⟩=>by
 obtain⟨L',c,d⟩:=a e L j;exact⟨L',c,d l F g,i⟩
theorem i1W {P:Program} {l:Nat} {args:Array Value} {α:Type} {N:α→List a0E} {Post:Ending→List a0E→Prop} (h: ∀x,b1M P l args (N x) Post):b1M P l args [ex fun x=>b0E (N x)] Post:=fun w F b=>by
 obtain⟨x,a⟩:=g0K.1 b;exact h x w F (b0M.1 a)
def BPM (P:Program) (fn:Func) (Post:Ending→List a0E→Prop) (F:a0E) (w0:World):Exit→Act→World→Prop:=
 bodyPostM Fence.wide 0 P fn fun e a=> ∃L',Post e L'∧Sat a (L'++ [F])∧d0S w0 a
theorem z0S {P:Program} {f:FuncId} {fn:Func} {a:Code} {args:List Value} {Pre:List a0E} {Post:Ending→List a0E→Prop} {n:Nat}
 (i:P.funcs[f]? =some fn) (hb:fn.body=some a) (k:fn.ntmps=n) (b:Nat.ble args.length n=true)
 (h: ∀F w0,CW ⟨P,n,[],w0⟩ a (BPM P fn Post F w0) (j0X 0 args) (Pre++ [F])):a0G P f args.toArray Pre Post:=by
 have j:args.length≤n:=Nat.le_of_ble_eq_true b;intro w F c;refine callsIn_wide.1 (callsIn_of_wp_marks (n:=0) i hb trivial (wpIn_wide.2 (h F w _ w ?_)));refine⟨by simp[k];omega,?_,rfl,c,d0S.refl w⟩;intro t v l;obtain⟨_,d⟩:=r0H args 0 t v l;simp only[Nat.sub_zero]at d;have g:t<args.length:=by
  rcases Nat.lt_or_ge t args.length with e|e
  ·exact e
  ·rw[List.getElem?_eq_none e]at d;cases d
 rw[Array.getElem?_append_left (by simpa using g)];simpa using d
section
variable {P:Program} {n:Nat} {w0:World} {Q:Exit→Act→World→Prop} {env:List (Nat×Value)} {L:List a0E} {fn:Func} {Post:Ending→List a0E→Prop} {F:a0E}
theorem t2J {D:Nat} {e:Exit} (i:e= .ret∨e= .normal) (k: ∀a w,BPM P fn Post F w0 e a w→Q e a w) {v:Value} (l:q0H fn env=some v) {L' R:List a0E} (hL:b0A L (pts D (.deferred (some []))::F::L') R) (j:Post (.returned v) L'):KW ⟨P,n,[i0H D],w0⟩ Q e env L:=by
 intro a w b;have d:Sat w (pts D (.deferred (some []))::(F::L'++R)):=b.sat.perm hL;refine k a w ?_;have key:LeavesInM Fence.wide 0 P fn a.tmps (fun e f=> ∃L',Post e L'∧Sat f (L'++ [F])∧d0S w0 f) a.defers .returning w:=by
  rw[show a.defers= [i0H D]from b.defers];refine⟨by simp,.inl ⟨D,_,rfl,run_takeDeferred d.pts,?_⟩⟩;refine⟨v,?_,L',j,?_,u0H b.like _ _⟩
  ·have c:b0J ⟨P,n,[i0H D],w0⟩ env (pts D (.deferred none)::(F::L'++R)) a (w.putObj D (.deferred none)):=⟨b.size,b.slots,b.defers,d.putL,u0H b.like _ _⟩;exact b1G c l
  ·have g:Sat (w.putObj D (.deferred none)) ((F::L')++R):=(d.putL (o':= .deferred none)).tail;have h:Sat (w.putObj D (.deferred none)) (F::L'):=(g.perm List.perm_append_comm).drop;exact h.perm (List.perm_append_comm (l₁:= [F]))
 rcases i with rfl|rfl<;>exact key
theorem g1L {D:Nat} (c: ∀a w,BPM P fn Post F w0 .ret a w→Q .ret a w) {v:Value} (d:q0H fn env=some v) {L' R:List a0E} (hL:b0A L (pts D (.deferred (some []))::F::L') R) (b:Post (.returned v) L'):CW ⟨P,n,[i0H D],w0⟩ .ret Q env L:=
 s0A (t2J (.inl rfl) c d hL b)
end
end
end Go.Sl
namespace Go.Sl
open Go.BigFrame
section
section
variable {c:Cx} {ops:Array Oper} {Q:Exit→Act→World→Prop} {rest:List Oper} {env:List (Nat×Value)} {L M:List a0E}
 {d:Tmp} {ty:TypeId} {pos:String} {af:Array Edge}
theorem d1R {s x:Operand} {t F e size f n m:Nat} {base:Option Addr} {y z:Value} {xs news:List Value} (H:c0X c.P t e size=true) (j:r0K c.P e f=true)
 (D:h0D c.P e=some z) (E:z.cells.size=size) (N:evo env s=some (.slice base n n)) (O:evo env x=some y)
 (r: ∀a w,b0J c env L a w→(Builtin.firstCells size n (.slice base n n)).run c.P w.drew= .ok xs.toArray w.drew) (C:xs.length=n*size)
 (v: ∀a w,b0J c env L a w→Src c.P size F y m news w) (R:0<m) (q:n+m≤maxLen) (hb:(n+m)*f≤140737488355328)
 (h: ∀(b cap:Nat) (cur:List Value),n+m≤cap→cap≤maxLen→cur.length=cap*size→cur.take ((n+m)*size)=xs++news→OW c ops Q rest ((d,.slice (some ⟨b,0,none⟩) (n+m) cap)::env) (pts b (.cells cur.toArray e (0,0))::L)) (hd:Nat.blt d c.n=true:=by rfl):
 OW c ops Q (⟨some d,.call {callee:= .builtin .append,args:= #[s,x],argTypes:= #[t,F]},ty,pos,af,none⟩::rest) env L:=by
 intro a w k;simp only[c0X,Bool.and_eq_true]at H;obtain⟨l,o⟩:=H;split at l
 case h_2=>cases l
 rename_i p hu;simp only[beq_iff_eq]at l;subst l;unfold r0K at j;split at o
 case h_2=>cases o
 rename_i i hi;unfold h0D at D;rw[hi]at j D;simp only[beq_iff_eq]at o j;subst o;subst j;have u:=v a w k;refine wpList_plain rfl fun K M=> ?_;have B:news.length=m*i.size:=u.newsLen;have g:(xs++news).length=(n+m)*i.size:=by rw[List.length_append,C,B,Nat.add_mul]
 have G:=run_append_grow_src (P:=c.P) (w:=w) t F ty p i z hu hi D base n n xs (r a w k) y m news u (by omega) (by simp only[maxLen]at q;omega) (growslice_fits (by omega) hb);have A:=grownCap_ge w (n+m) n p;have J:((xs++news).toArray++Builtin.zeroCells z.cells (grownCap w (n+m) n p- (n+m)))=((xs++news)++(Builtin.zeroCells z.cells (grownCap w (n+m) n p- (n+m))).toList).toArray:=by
  apply Array.ext';simp
 rw[J]at G;unfold Oper.wp;rw[execOp_builtin,builtin_append];have I:(#[s,x]:Array Operand).map a.eval= #[.slice base n n,y]:=by simp[k.eval N,k.eval O]
 rw[I];simp only[Sem.run_bind,G,Result.andThen_ok,Sem.run_pure,Oper.upon];refine M _ _ (h w.heap.size _ _ A (grownCap_le_maxLen w (n+m) n p q) ?_ ?_ _ _ ((⟨k.size,k.slots,k.defers,(k.sat.drew).alloc _,(k.like.drew).alloc _⟩:b0J c env _ a _).put d _ hd))
 ·rw[List.length_append,g,Array.length_toList,size_zeroCells,E,←Nat.add_mul];congr 1;omega
 ·rw[←g];exact List.take_left
theorem o2A {size n:Nat} {e:TypeId} {g:Nat} {cur xs:List Value} [hL:o0G L g (.cells cur.toArray e (0,0)) M] (j:n*size≤cur.length) (k:cur.take (n*size)=xs):
 ∀a w,b0J c env L a w→(Builtin.firstCells size n (.slice (some ⟨g,0,none⟩) n n)).run c.P w.drew= .ok xs.toArray w.drew:=by
 intro a w i;have h:=hL.sat i.sat;have d:=g0U (P:=c.P) (w:=w.drew) (b:=g) (o:=0) (n:=n*size) (cs:=cur.toArray) (e:=e) (fr:=(0,0)) h.drew.pts (by rw[List.size_toArray,Nat.zero_add];exact j);have f:cur.toArray.extract 0 (0+n*size)=xs.toArray:=by apply Array.ext';simp[k]
 simp only[Builtin.firstCells];rw[d,f]
theorem o2B {size:Nat} : ∀a w,b0J c env L a w→(Builtin.firstCells size 0 (.slice none 0 0)).run c.P w.drew= .ok ([]:List Value).toArray w.drew:=by
 intro a w b;simp[Builtin.firstCells]
end
end
end Go.Sl
section
namespace Go.Sl
def edge (o:Oper) (i:Nat):Bool:=o.after.any fun e=>Region.binds .any e&&Nat.beq e.on i
def p0I (ops:List Oper):Bool:=
 ((List.range ops.length).all fun j=>match ops[j]? with|some o=>o.after.all (fun e=> !Region.binds .any e || Nat.blt e.on j)|none=>false)&&
 ((List.range (ops.length-1)).all fun i=>(List.range ops.length).any fun j=>Nat.blt i j&&(match ops[j]? with|some o=>edge o i|none=>false))
def DC (ops:List Oper) (l:Array Bool):Prop:= ∀(j:Nat) (o:Oper),ops[j]? =some o→l.getD j false=true→ ∀e∈o.after,Region.binds .any e=true→l.getD e.on false=true
section
variable {P:Program} {Q:Exit→Act→World→Prop} {l:List Oper} {o:Oper}
theorem y0Y (h:p0I (l++ [o])=true) {j:Nat} {p:Oper} (b:(l++ [o])[j]? =some p): ∀e∈p.after,Region.binds .any e=true→e.on<j:=by
 simp only[p0I,Bool.and_eq_true]at h;have c:j<(l++ [o]).length:=by
  rcases Nat.lt_or_ge j (l++ [o]).length with a|a
  ·exact a
  ·rw[List.getElem?_eq_none a]at b;cases b
 have d:=List.all_eq_true.1 h.1 j (List.mem_range.2 c);rw[b]at d;intro e g hb;have f:=Array.all_eq_true'.1 d e g;rw[hb]at f;simpa using f
theorem i2P (h:p0I (l++ [o])=true) {i:Nat} (hi:i<l.length): ∃j p,i<j∧(l++ [o])[j]? =some p∧ ∃e∈p.after,Region.binds .any e=true∧e.on=i:=by
 simp only[p0I,Bool.and_eq_true]at h;have d:=List.all_eq_true.1 h.2 i (List.mem_range.2 (by simpa using hi));obtain⟨j,m,c⟩:=List.any_eq_true.1 d;simp only[Bool.and_eq_true]at c;obtain⟨f,a⟩:=c;split at a
 ·rename_i p k;unfold edge at a;obtain⟨e,g,b⟩:=Array.any_eq_true'.1 a;simp only[Bool.and_eq_true]at b;exact⟨j,p,by simpa using f,k,e,g,b.1,Nat.eq_of_beq_eq_true b.2⟩
 ·cases a
theorem o2C (h:p0I (l++ [o])=true) {b:Array Bool} (hd:DC (l++ [o]) b) (n: ∀e∈o.after,Region.binds .any e=true→b.getD e.on false=true): ∀i,i<l.length→b.getD i false=true:=by
 have key: ∀k i,l.length-i=k→i<l.length→b.getD i false=true:=by
  intro k
  induction k using Nat.strongRecOn with
  |_ k ih=>
   intro i q hi;obtain⟨j,p,g,a,e,f,hb,rfl⟩:=i2P h hi;have m:j<l.length+1:=by
    rcases Nat.lt_or_ge j (l++ [o]).length with c|c
    ·simpa using c
    ·rw[List.getElem?_eq_none c]at a;cases a
   by_cases d:j=l.length
   ·subst d;simp at a;subst a;exact n e f hb
   ·exact hd j p a (ih (l.length-j) (by omega) j rfl (by omega)) e f hb
 intro i hi;exact key _ i rfl hi
theorem b1O {a:Array Bool} {n i:Nat} {b:Bool} (d:a.size=n+1) (hi:i<n):a.pop.getD i b=a.getD i b:=by
 have c:i<a.size:=by omega
 simp[Array.getD_eq_getD_getElem?,Array.getElem?_pop,d,hi,Array.getElem?_eq_getElem c]
theorem e1D (h:p0I (l++ [o])=true) {d:Array Bool} (c:d.size=l.length+1) {i:Nat} (hi:i<l.length):i∈Region.ready .any (l++ [o]).toArray d↔i∈Region.ready .any l.toArray d.pop:=by
 rw[mem_ready,mem_ready,b1O c hi];have b:(l++ [o]).toArray[i]? =l.toArray[i]? :=by simp[List.getElem?_append_left hi]
 rw[b];refine and_congr Iff.rfl ⟨?_,?_⟩
 ·rintro⟨p,hp,hall⟩;refine⟨p,hp,fun e a hb=> ?_⟩;have:=y0Y h (j:=i) (p:=p) (by simpa using b.trans hp) e a hb;rw[b1O c (by omega)];exact hall e a hb
 ·rintro⟨p,hp,hall⟩;refine⟨p,hp,fun e a hb=> ?_⟩;have:=y0Y h (j:=i) (p:=p) (by simpa using b.trans hp) e a hb;have f:=hall e a hb
  rwa [b1O c (by omega)]at f
theorem x0S {ops:List Oper} {c:Array Bool} {i:Nat} (h:i∈Region.ready .any ops.toArray c):i<ops.length:=by
 obtain⟨_,p,b,_⟩:=mem_ready.1 h;rcases Nat.lt_or_ge i ops.length with a|a
 ·exact a
 ·simp[List.getElem?_eq_none a]at b
theorem h1M (h:p0I (l++ [o])=true) {a:Array Bool} (f:a.size=l.length+1) (d:Region.ready .any l.toArray a.pop= []): ∀i,i<l.length→a.getD i false=true:=by
 intro i
 induction i using Nat.strongRecOn with
 |_ i ih=>
  intro hi;cases hb:a.getD i false with
  |true=>rfl
  |false=>
   exfalso;have:i∈Region.ready .any (l++ [o]).toArray a:=by
    refine mem_ready.2 ⟨?_,l[i],by simp[List.getElem?_append_left hi],fun e c b=> ?_⟩
    ·simp only[Array.getD_eq_getD_getElem?]at hb ⊢;rw[Array.getElem?_eq_getElem (by omega)]at hb ⊢;exact hb
    ·have:=y0Y h (j:=i) (p:=l[i]) (by simp[List.getElem?_append_left hi]) e c b;exact ih e.on this (by omega)
   rw[e1D h f hi,d]at this;cases this
theorem i2Q {i:Nat} {K:Act→World→Prop} {X:Act→World→Prop} {a:Act} {w:World} (hi:i<l.length) (m: ∀p:Oper,l[i]? =some p→ ∀g:Nat×Bool,p.guard=some g→g.1<l.length) (h:wpOp P l.toArray (Exit.then X Q) i K a w):wpOp P (l++ [o]).toArray Q i K a w:=by
 unfold wpOp at h ⊢;have e:(l++ [o]).toArray[i]? =l.toArray[i]? :=by simp[List.getElem?_append_left hi]
 rw[e];have r:l.toArray[i]? =some l[i]:=by simp[hi]
 rw[r]at h ⊢;simp only at h ⊢;have f:Region.wanted l[i] (yielded (l++ [o]).toArray a.tmps)=Region.wanted l[i] (yielded l.toArray a.tmps):=by
  unfold Region.wanted;cases b:l[i].guard with
  |none=>rfl
  |some g=>
   obtain⟨j,d⟩:=g;have n:=m l[i] (by simp[hi]) (j,d) b;simp only[yielded];have:(l++ [o]).toArray[j]? =l.toArray[j]? :=by simp[List.getElem?_append_left n]
   rw[this]
 rw[f];split
 ·rename_i c;rw[if_pos c]at h;rcases h with h| ⟨k,q⟩
  ·left;rwa [n1N]at h
  ·exact .inr ⟨k,q⟩
 ·rename_i c;rw[if_neg c]at h;exact h
theorem d2W (h:p0I (l++ [o])=true) (Y: ∀(i:Nat) (p:Oper),l[i]? =some p→ ∀g:Nat×Bool,p.guard=some g→g.1<l.length): ∀(fuel:Nat) (b:Array Bool) (a:Act) (w:World),b.size=l.length+1→b.getD l.length true=false→DC (l++ [o]) b→
 wpAny P .any l.toArray (Exit.then (fun a w=>wpList P (l++ [o]).toArray Q [o] a w) Q) fuel b.pop a w→wpAny P .any (l++ [o]).toArray Q (fuel+1) b a w:=by
 have fin: ∀(fuel:Nat) (b:Array Bool) (a:Act) (w:World),b.size=l.length+1→b.getD l.length true=false→(∀i,i<l.length→b.getD i false=true)→wpList P (l++ [o]).toArray Q [o] a w→wpAny P .any (l++ [o]).toArray Q (fuel+1) b a w:=by
  intro fuel b a w q u c n;have C:l.length∈Region.ready .any (l++ [o]).toArray b:=mem_ready.2 ⟨u,o,by simp,fun e H hb=>c e.on (y0Y h (j:=l.length) (p:=o) (by simp) e H hb)⟩;have E: ∀i∈Region.ready .any (l++ [o]).toArray b,i=l.length:=by
   intro i hi;have r:=x0S hi;simp at r;rcases Nat.lt_or_ge i l.length with x|x
   ·have d:=(mem_ready.1 hi).1;have m:=c i x;simp only[Array.getD_eq_getD_getElem?]at d m;rw[Array.getElem?_eq_getElem (by omega)]at d m;simp at d m;rw[d]at m;cases m
   ·omega
  refine⟨fun K=>(by rw[K]at C;cases C),fun i hi=> ?_⟩;rw[E i hi];have T: ∀s v,Q .normal s v→wpAny P .any (l++ [o]).toArray Q fuel (b.setIfInBounds l.length true) s v:=by
   intro s v U;have D:Region.ready .any (l++ [o]).toArray (b.setIfInBounds l.length true)= []:=by
    refine List.eq_nil_iff_forall_not_mem.2 fun i hi=> ?_;have r:=x0S hi;simp at r;have d:=(mem_ready.1 hi).1;simp only[Array.getD_eq_getD_getElem?,Array.getElem?_setIfInBounds]at d;split at d
    ·split at d<;>simp at d
    ·have m:=c i (by omega);simp only[Array.getD_eq_getD_getElem?]at m;rw[Array.getElem?_eq_getElem (by omega)]at d m;simp at d m;rw[d]at m;cases m
   cases fuel with
   |zero=>exact⟨D,U⟩
   |succ f=>exact⟨fun _=>U,by rw[D];simp⟩
  unfold wpOp;have:(l++ [o]).toArray[l.length]? =some o:=by simp
  rw[this];simp only;unfold wpList at n;split
  ·rename_i S;rw[if_pos S]at n;rcases n with n| ⟨X,Z⟩
   ·exact .inl (Oper.wp_mono (fun s v J=>T s v (by simpa [wpList] using J)) n)
   ·exact .inr ⟨X,Z⟩
  ·rename_i S;rw[if_neg S]at n;exact T _ _ (by simpa [wpList] using n)
 intro fuel
 induction fuel with
 |zero=>
  intro b a w q u hd n;exact fin 0 b a w q u (h1M h q n.1) n.2
 |succ fuel ih=>
  intro b a w q u hd n;by_cases I:Region.ready .any l.toArray b.pop= []
  ·exact fin (fuel+1) b a w q u (h1M h q I) (n.1 I)
  ·have G: ∀i∈Region.ready .any (l++ [o]).toArray b,i<l.length:=by
    intro i hi;have r:=x0S hi;simp at r;rcases Nat.lt_or_ge i l.length with x|x
    ·exact x
    ·exfalso;have M:i=l.length:=by omega
     subst M;obtain⟨_,p,F,c⟩:=mem_ready.1 hi;simp at F;subst F;have L:=o2C h hd c;apply I;refine List.eq_nil_iff_forall_not_mem.2 fun k t=> ?_;have B:=x0S t;have d:=(mem_ready.1 t).1;rw[b1O q B]at d;have m:=L k B;simp only[Array.getD_eq_getD_getElem?]at d m;rw[Array.getElem?_eq_getElem (by omega)]at d m;simp at d m;rw[d]at m;cases m
   refine⟨fun K=> ?_,fun i hi=> ?_⟩
   ·exfalso;obtain⟨k,t⟩:=List.exists_mem_of_ne_nil _ I;have:=(e1D h q (x0S t)).2 t;rw[K]at this;cases this
   ·have z:=G i hi;have r:=n.2 i ((e1D h q z).1 hi);refine i2Q z (Y i) (wpOp_mono (fun s v J=>ih (b.setIfInBounds i true) s v (by simpa using q) ?_ ?_ ?_) r)
    ·simp only[Array.getD_eq_getD_getElem?,Array.getElem?_setIfInBounds]at u ⊢;rw[if_neg (by omega)];exact u
    ·intro j p F N e H hb;simp only[Array.getD_eq_getD_getElem?,Array.getElem?_setIfInBounds]at N ⊢;by_cases y:i=e.on
     ·rw[if_pos y,if_pos (by omega)];rfl
     ·rw[if_neg y];by_cases A:i=j
      ·subst A;obtain⟨_,V,O,c⟩:=mem_ready.1 hi;have R:p=V:=by
        have W:(l++ [o])[i]? =some V:=by simpa using O
        exact Option.some.inj (F.symm.trans W)
       subst R;have:=c e H hb;simpa [Array.getD_eq_getD_getElem?] using this
      ·rw[if_neg A]at N;have:=hd j p F (by simpa [Array.getD_eq_getD_getElem?] using N) e H hb;simpa [Array.getD_eq_getD_getElem?] using this
    ·have:(b.setIfInBounds i true).pop=b.pop.setIfInBounds i true:=by
      apply Array.ext
      ·simp
      ·intro k r x;have t:k<b.size-1:=by simpa using r
       rw[Array.getElem_pop,Array.getElem_setIfInBounds (by omega),Array.getElem_setIfInBounds (by simpa using t),Array.getElem_pop]
     rw[this];exact J
end
def n1W (l:List Oper):Bool:=l.all fun p=>match p.guard with|some g=>Nat.blt g.1 l.length|none=>true
theorem s1X {l:List Oper} (h:n1W l=true): ∀(i:Nat) (p:Oper),l[i]? =some p→ ∀g:Nat×Bool,p.guard=some g→g.1<l.length:=by
 intro i p b g a;have:=List.all_eq_true.1 h p (List.mem_of_getElem? b);rw[a]at this;simpa using this
theorem i2R {c:Cx} {Q:Exit→Act→World→Prop} {env:List (Nat×Value)} {L R:List a0E} {id:Nat} {l:List Oper} {o:Oper} (plan:g0N) (K:List a0E) (x:c.P.follows .mixedOrders=true)
 (s:(p0I (l++ [o])&&(n1W l&&(Region.noSelect l.toArray&&(Nat.beq plan.len l.length&&k0V l.toArray plan [] (Array.replicate l.length false)))))=true) (u:b0T Q) (t:b0A L K R)
 (h:OMf c l.toArray (Exit.then (fun a w=>wpList c.P (l++ [o]).toArray Q [o] a w) Q) K [] plan env L):CW c (.region id (l++ [o]).toArray true) Q env L:=by
 intro a w v;simp only[Bool.and_eq_true]at s;obtain⟨f,g,i,k,m⟩:=s;have b:=v.drew;have y:Sat w.drew K:=((b.sat.perm t).perm List.perm_append_comm).drop;have d:=h _ [] [] [] a w.drew m i u.then ⟨rfl,(fun p q=>by cases q),fun p q=>by cases q⟩ ⟨rfl,rfl⟩ (by simpa using b) y;have e:plan.len=l.length:=Nat.eq_of_beq_eq_true k;simp only[cnt,Nat.add_zero,ap]at d;rw[e]at d;refine wp_region_any x ?_;have r:(l++ [o]).toArray.size=l.length+1:=by simp
 rw[r];refine d2W f (s1X g) _ _ _ _ (by simp) (by simp) (fun j p _ n=> ?_) ?_
 ·rw[Array.getD_eq_getD_getElem?,Array.getElem?_replicate]at n;split at n<;>simp at n
 ·have:(Array.replicate (l.length+1) false).pop=Array.replicate l.length false:=by simp
  rw[this];exact wpAny_of_held _ _ _ _ d
theorem a1K {c:Cx} {Q:Exit→Act→World→Prop} {env:List (Nat×Value)} {L:List a0E} {ops:Array Oper} {o:Oper} (h:OW c ops Q [o] env L):KW c (Exit.then (fun a w=>wpList c.P ops Q [o] a w) Q) .normal env L:=h
end Go.Sl
namespace Go.Sl
theorem v0O {c:Cx} {Q:Exit→Act→World→Prop} {env:List (Nat×Value)} {L R:List a0E} {id:Nat} {l:List Oper} (n:Nat) {o:Oper} (i:l.drop n= [o]) (plan:g0N) (K:List a0E) (g:c.P.follows .mixedOrders=true)
 (b:(p0I l&&(n1W (l.take n)&&(Region.noSelect (l.take n).toArray&&(Nat.beq plan.len (l.take n).length&&k0V (l.take n).toArray plan [] (Array.replicate (l.take n).length false)))))=true) (f:b0T Q) (d:b0A L K R)
 (h:OMf c (l.take n).toArray (Exit.then (fun a w=>wpList c.P l.toArray Q [o] a w) Q) K [] plan env L):CW c (.region id l.toArray true) Q env L:=by
 have e:l.take n++ [o]=l:=by rw[←i];exact List.take_append_drop _ _
 have:=i2R (id:=id) (l:=l.take n) (o:=o) plan K g (by rw[e];exact b) f d (by rw[e];exact h)
 rwa [e]at this
end Go.Sl
end
section
namespace Go.Sl
open Go.RowKit
theorem i2S {w d:World} {L:List a0E} (h:Sat w L) (hb:Below w.heap.size w d):Sat d L:=by
 obtain⟨l,e,f,a⟩:=h;exact⟨l,e,f,fun b o c=>by rw[hb.block b (r0F (a b o c))];exact a b o c⟩
theorem b1P {P:Program} {f:FuncId} {args:Array Value} {v:Value} (h: ∀w,Calls P f args w fun e a=>e= .returned v∧Below w.heap.size w a):a0G P f args [] (a0T v []):=by
 intro w F b;refine(h w).mono ?_;rintro e a ⟨rfl,hb⟩;exact⟨[],⟨rfl,rfl⟩,i2S b hb,hb.os,hb.tape,hb.output⟩
theorem i2T {P:Program} {f:FuncId} {args:Array Value} {v:Value} (h: ∀w,Calls P f args w fun e a=>e= .returned v∧(a=w∨a=w.drew)):a0G P f args [] (a0T v []):=
 b1P fun w=>(h w).mono fun e a ⟨b,c⟩=>⟨b,by
  rcases c with rfl|rfl
  ·exact Below.refl _ _
  ·exact(Below.refl _ _).drew⟩
end Go.Sl
namespace Go.Sl
theorem c0H {c:Cx} {ops:Array Oper} {Q:Exit→Act→World→Prop} {rest:List Oper} {env:List (Nat×Value)} {L M:List a0E} {ty:TypeId} {pos:String} {af:Array Edge}
 {t:TypeId} {x y:Operand} {b o n cap size:Nat} {e:TypeId} {xs xs':List Value} {v:Value}
 (u:x0O c.P t (1)=true) (z:evo env x=some (.pointer (some ⟨b,o,none⟩))) (A:evo env y=some v) (q:v.oneCell'=true)
 (hL:Fnd L (b0I e size (.slice (some ⟨b,0,none⟩) n cap) n xs) M) (D:o<xs.length) (r:xs.set o v=xs')
 (h:OW c ops Q rest env (b0I e size (.slice (some ⟨b,0,none⟩) n cap) n xs'::M)):OW c ops Q (⟨none,.store t x y,ty,pos,af,none⟩::rest) env L:=by
 intro a w d;obtain⟨C,f⟩:=f0O (hL.sat d.sat);rcases f with ⟨g,_⟩| ⟨B,j,cur,g,l,m,p,k,s⟩
 ·cases g
 ·simp only[Value.slice.injEq,Option.some.injEq,Addr.mk.injEq]at g;obtain⟨⟨rfl,_,_⟩,_,rfl⟩:=g;have i:o<cur.length:=by
   have:xs.length≤cur.length:=by rw[←k];simp;omega
   omega
  refine d0T (c:=c) (L:=pts b (.cells cur.toArray e (0,0))::M) (M:=M) (cs':=cur.set o v) u z A q (by rw[Nat.blt_eq];exact i) rfl (fun a w d=> ?_) a w ⟨d.size,d.slots,d.defers,s,d.like⟩;refine h a w ⟨d.size,d.slots,d.defers,r0J d.sat l m (by simpa using p) ?_,d.like⟩;rw[List.take_set,k,r]
end Go.Sl
end
namespace Go.Sl
open Go.BigFrame
section
section
variable {c:Cx} {ops:Array Oper} {Q:Exit→Act→World→Prop} {rest:List Oper} {env:List (Nat×Value)} {L M:List a0E}
 {d:Tmp} {ty:TypeId} {pos:String} {af:Array Edge} {g:Option (Nat×Bool)} {dd:Option Tmp}
theorem b1Q {t len e n:TypeId} {x:Operand} {b o:Nat} (j:k0Y c.P t len e n=true) (m:evo env x=some (.pointer (some ⟨b,o,none⟩))):
 a0P c ⟨dd,.slice t x none none none,ty,pos,af,g⟩ env L (.slice (some ⟨b,o,none⟩) len len):=by
 intro a w h;simp only[k0Y,Bool.and_eq_true]at j;obtain⟨f,i⟩:=j;split at f
 ·rename_i l z hu;simp at f;obtain⟨rfl,rfl⟩:=f;split at i
  ·rename_i k d;simp at i;subst i;simp[execOp,h.eval m,Instr.sliceAt,run_underlying hu,Instr.sureAddr,Instr.sliceBounds,Instr.sliceBound,sizeOf,typeInfo,d,Addr.add]
  ·cases i
 ·cases f
theorem l1B {t A e:TypeId} {x y:Operand} {b o n cap:Nat} {s:ByteArray} {cs cs':List Value} {q:TypeId} (z:c0X c.P t e 1=true) (H:evo env x=some (.slice (some ⟨b,o,none⟩) n cap)) (I:evo env y=some (.string s))
 [hL:o0G L b (.cells cs.toArray q (0,0)) M] (F:o+min s.size n≤cs.length) (E:cs.take o++(s.data.toList.take n).map a0Q++cs.drop (o+min s.size n)=cs')
 (h:OW c ops Q rest ((d,.int .i64 (min s.size n:Nat))::env) (pts b (.cells cs'.toArray q (0,0))::M)) (hd:Nat.blt d c.n=true:=by rfl):
 OW c ops Q (⟨some d,.call {callee:= .builtin .copy,args:= #[x,y],argTypes:= #[t,A]},ty,pos,af,none⟩::rest) env L:=by
 intro a w l;simp only[c0X,Bool.and_eq_true]at z;obtain⟨f,g⟩:=z;split at f
 case h_2=>cases f
 rename_i J hu;simp only[beq_iff_eq]at f;subst f;split at g
 case h_2=>cases g
 rename_i i hi;simp only[beq_iff_eq]at g;have k:=hL.sat l.sat;have hb:=k.pts;have j:((s.data.toList.take n).map a0Q).length=min s.size n:=by simp[Nat.min_comm]
 have p:=n0T (P:=c.P) ((s.data.toList.take n).map a0Q) o 0 cs.toArray w hb (by rw[j];simpa using F) (by
  intro v G;obtain⟨u,_,rfl⟩:=List.mem_map.1 G;rfl)
 have r:(cs.toArray.extract 0 (o+0)++((s.data.toList.take n).map a0Q).toArray++cs.toArray.extract (o+0+((s.data.toList.take n).map a0Q).length) cs.toArray.size)=cs'.toArray:=by
  rw[j,←E];apply Array.ext';simp[List.take_of_length_le]
 rw[r]at p;refine wpList_plain rfl fun K D=> ?_;unfold Oper.wp;rw[execOp_builtin,builtin_copy];have B:(#[x,y]:Array Operand).map a.eval= #[.slice (some ⟨b,o,none⟩) n cap,.string s]:=by simp[l.eval H,l.eval I]
 rw[B];have m:(Builtin.copy_ #[t,A] ty #[.slice (some ⟨b,o,none⟩) n cap,.string s]).run c.P w= .ok (.int .i64 (min s.size n:Nat)) (put w b (.cells cs'.toArray q (0,0))):=by
  simp only[Builtin.copy_,Sem.run_bind,Sem.run_pure,run_underlying hu,Result.andThen_ok,Builtin.lenOf,Builtin.firstCells,sizeOf,typeInfo,hi];simp[run_underlying hu,Builtin.lenOf,Builtin.firstCells,sizeOf,typeInfo,hi,g];have C:List.take (s.size.min n) (List.map (fun b:UInt8=>Value.int IntKind.u8 b.toNat) s.data.toList)=(s.data.toList.take n).map a0Q:=by
   rw[←List.map_take];have:s.data.toList.take (s.size.min n)=s.data.toList.take n:=by
    rw[show s.size.min n=min s.size n from rfl,List.take_eq_take_iff];simp;omega
   rw[this];rfl
  rw[C,p];rfl
 simp only[Sem.run_bind,m,Result.andThen_ok,Sem.run_pure,Oper.upon];exact D _ _ (h _ _ ((⟨l.size,l.slots,l.defers,k.put,l.like.put _ _⟩:b0J c env _ a _).put d _ hd))
theorem r0M {t len e n:TypeId} {parts:List (Nat×Operand)} {z:Value} {ps:List (Nat×Value)} {cs:List Value} (m:k0Y c.P t len e n=true) (j:h0D c.P t=some z)
 (r:p0X env parts=some ps) (p:m0O (fun i=>some (i*n,n)) z.cells.toList (ps.map fun(i,v)=>(i,v.cells.toList))=some cs):a0P c ⟨some d,.build t parts.toArray,ty,pos,af,g⟩ env L (.agg cs.toArray):=by
 intro a w q;have f:(parts.toArray.map fun(i,x)=>(i,a.eval x)).toList=ps:=by simpa using v0B q parts ps r
 have hb:c.P.built t (parts.toArray.map fun(i,x)=>(i,a.eval x)).toList=some cs.toArray:=by
  rw[f];simp only[k0Y,Bool.and_eq_true]at m;obtain⟨f,h⟩:=m;unfold Program.built;split at f
  ·rename_i l y hu;simp at f;obtain⟨rfl,rfl⟩:=f;split at h
   ·rename_i o b;simp at h;subst h;unfold h0D at j;split at j
    ·rename_i s k;simp only[k,hu,j,b];exact w0J ps z.cells cs p
    ·cases j
   ·cases h
  ·cases f
 unfold execOp;simp only[Sem.run_bind,run_build w t _ _ hb,Result.andThen_ok,Sem.run_pure]
end
open Go.Sb in
theorem k0A {P:Program} {n:Nat} {w0:World} {Q:Exit→Act→World→Prop} {env:List (Nat×Value)} {L:List a0E} {fn:Func} {F:a0E} {S α:Type} {ft:TypeId} {R:S→List a0E} {val:α→Value} {o:Out α×S} {a:α} {s:S} {R':List a0E}
 (b:o=(.ok a,s)) (c: ∀x w,BP P fn (Ran ft R val o) F w0 .ret x w→Q .ret x w) {us:List Value} (d:RV ⟨P,n,[],w0⟩ env L fn.results.toList us) (hu:b1H us=val a) (hL:b0A L (F::R s) R'):CW ⟨P,n,[],w0⟩ .ret Q env L:=by
 subst b;exact s0A (n1L c d hL ⟨by rw[hu],rfl⟩)
end
end Go.Sl

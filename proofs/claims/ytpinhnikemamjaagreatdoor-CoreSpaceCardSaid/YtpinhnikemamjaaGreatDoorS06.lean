/- Part of the proof; no statement of its own. -/
import Derived.Test.YtpinhnikemamjaaGreatDoorS05
import Derived.RangeFuncLeaves
import Derived.RangeFuncRecord
import Derived.TacticsIn
import Derived.Below
set_option linter.all false
set_option maxRecDepth 4000
set_option maxHeartbeats 4000000
namespace Go.Sl
section
abbrev FR (l:Nat):Fence:=Fence.wide.inRound l
def b1M (P:Program) (l:Nat) (args:Array Value) (Pre:List a0E) (Post:Ending→List a0E→Prop):Prop:=
 ∀w (F:a0E),Sat w (Pre++ [F])→ ∃f tmps assign body,(Instr.yield l args).run P w= .ok (.round l f tmps assign body) w∧
  RoundIn Fence.wide 0 P l f tmps assign body w fun e w'=> ∃L',Post e L'∧Sat w' (L'++ [F])∧d0S w w'
section
variable {c:Cx} {ops:Array Oper} {Q:Exit→Act→World→Prop} {rest:List Oper} {env:List (Nat×Value)} {L:List a0E} {d:Tmp} {op:Op} {ty:TypeId} {pos:String} {af:Array Edge}
def OI (c:Cx) (ops:Array Oper) (Q:Exit→Act→World→Prop) (l:List Oper) (env:List (Nat×Value)) (L:List a0E):Prop:=
 ∀a w,b0J c env L a w→wpListIn Fence.wide 0 c.P ops Q l a w
theorem s1V (h:KW c Q .normal env L):OI c ops Q [] env L:=fun a w hh=>wpListIn_nil (h a w hh)
theorem u0G {v:Value} (hy:a0P c ⟨some d,op,ty,pos,af,none⟩ env L v) (h:OI c ops Q rest ((d,v)::env) L) (hd:Nat.blt d c.n=true:=by rfl):OI c ops Q (⟨some d,op,ty,pos,af,none⟩::rest) env L:=by
 intro a w hh;refine wpListIn_step fun K hK=> ?_;rw[if_pos (by rfl)];refine⟨fun _ _=>trivial,?_⟩;show Oper.uponIn Fence.wide 0 c.P _ a K Q ((execOp a.eval _).run c.P w);rw[hy a w hh];exact hK _ _ (h _ _ (hh.put d v hd))
theorem i1S {fx:Operand} {l:Nat} {xs:List Operand} {ats:Array TypeId} {vs:List Value} {Pre M N:List a0E} {v:Value}
 (hf:evo env fx=some (.func (.yield l) #[] #[])) (hv:xs.mapM (evo env)=some vs) (hs:b1M c.P l vs.toArray Pre (fun e L'=>e= .returned v∧L'=N)) (hL:b0A L Pre M)
 (h:OI c ops Q rest ((d,v)::env) (N++M)) (hd:Nat.blt d c.n=true:=by rfl):OI c ops Q (⟨some d,.call {callee:= .value fx,args:=xs.toArray,argTypes:=ats},ty,pos,af,none⟩::rest) env L:=by
 intro a w hh;refine wpListIn_step fun K hK=> ?_;rw[if_pos (by rfl)];refine⟨fun _ _=>trivial,?_⟩;have hargs:(xs.toArray.map a.eval)=vs.toArray:=by simp[s1B hh _ _ hv]
 have hsat:Sat w (Pre++ [b0E M]):=by
  have h1:=hh.sat.perm hL;have h2:Sat w (b0E M::Pre):=b0M.2 (h1.perm List.perm_append_comm);exact h2.perm (List.perm_append_comm (l₁:= [b0E M]) (l₂:=Pre))
 obtain⟨f,tmps,assign,body,hy,hr⟩:=hs w (b0E M) hsat;have hrun:(execOp a.eval ⟨some d,.call {callee:= .value fx,args:=xs.toArray,argTypes:=ats},ty,pos,af,none⟩).run c.P w= .ok (.round l f tmps assign body) w:=by
  simp only[execOp,resolve,hargs,hh.eval hf,Deferred.ofValue,Sem.run_bind,Sem.run_pure,Result.andThen_ok,invoke];simpa using hy
 rw[show Oper.semAt Fence.wide.round a.eval ⟨some d,.call {callee:= .value fx,args:=xs.toArray,argTypes:=ats},ty,pos,af,none⟩=execOp a.eval ⟨some d,.call {callee:= .value fx,args:=xs.toArray,argTypes:=ats},ty,pos,af,none⟩from Oper.semAt_eq _ _ _ (fun c e=>by cases e)];rw[hrun,Oper.uponIn_round];refine⟨fun h=>absurd h (by decide),hr.mono ?_⟩;rintro e w' ⟨L',⟨rfl,rfl⟩,hs',hl⟩;have h1:Sat w' (b0E M::L'):=hs'.perm (List.perm_append_comm (l₁:=L') (l₂:= [b0E M]));have h2:=(b0M.1 h1).perm List.perm_append_comm;exact hK _ _ (h _ _ (b0J.put (L:=L'++M) ⟨hh.size,hh.slots,hh.defers,h2,hh.like.trans hl⟩ d v hd))
theorem b1N {id:Nat} {l:List Oper} (h:OI c l.toArray Q l env L):CW c (.region id l.toArray false) Q env L:=fun a w hh=>wpIn_wide.1 (wpIn_region_lit (h a w hh))
variable {r:Nat} {x y body:Code}
def CR (r:Nat) (c:Cx) (code:Code) (Q:Exit→Act→World→Prop) (env:List (Nat×Value)) (L:List a0E):Prop:= ∀a w,b0J c env L a w→code.wpIn (FR r) 0 c.P Q a w
theorem s1W (h:CR r c x (Exit.then (y.wpIn (FR r) 0 c.P Q) Q) env L):CR r c (x.seq y) Q env L:=fun a w hh=>wpIn_seq (h a w hh)
theorem s2I {z:Operand} {b:Bool} (hz:evo env z=some (.bool b)) (h1:b=true→CR r c x Q env L) (h2:b=false→CR r c y Q env L):CR r c (.cond z x y) Q env L:=by
 intro a w hh;exact wpIn_cond_split (hh.eval hz) (fun e=>h1 e a w hh) (fun e=>h2 e a w hh)
theorem i1T {id:Nat} (h:CR r c body (Exit.inBlock id Q) env L):CR r c (.block id body) Q env L:=fun a w hh=>wpIn_block (h a w hh)
theorem a2U (h:KW c Q .normal env L):CR r c .skip Q env L:=fun a w hh=>wpIn_skip (h a w hh)
theorem t2G {id:Nat} (h:KW c Q (.exit id) env L):CR r c (.exit id) Q env L:=fun a w hh=>wpIn_exit (h a w hh)
theorem n1T {e:Exit} {Q':Exit→Act→World→Prop} (hq: ∀a w,y.wpIn (FR r) 0 c.P Q' a w→Q e a w) (h:CR r c y Q' env L):KW c Q e env L:=fun a w hh=>hq a w (h a w hh)
theorem t2H {P:Program} {row:String} {args:Array Value} {w:World} {R:Value→World→Prop} (h:Rows P row args w R):RowsIn (FR r) 0 P row args w R:=
 fun c cs _=>let ⟨v,w',r,s⟩:=h c cs;⟨v,w',r,stepsIn_wide.2 s⟩
theorem t2I {P:Program} {o:Oper} {a:Act} {N N':Act→World→Prop} (hn: ∀a w,N a w→N' a w) (hQ: ¬LetsOut Q) {res:Result Next} (h:o.upon P a N Q res):o.uponIn (FR r) 0 P a N' Q res:=by
 unfold Oper.upon at h;split at h
 ·exact hn _ _ h
 ·exact hn _ _ h
 ·exact hn _ _ h
 ·refine⟨fun h=>(by cases h),callsIn_wide.2 (h.mono ?_)⟩;intro e w' he;cases e with
  |returned v=>exact hn _ _ he
  |panicked ch=>exact he
  |outgrown=>exact(hQ he).elim
 ·refine⟨fun h=>(by cases h),RowsIn.mono (t2H h) ?_⟩;exact fun v w' he=>hn _ _ he
 ·exact h
 ·exact h.elim
theorem n1U {P:Program} (hQ: ¬LetsOut Q): ∀(l:List Oper),(l.all fun o=>match o.op with| .defer _=>false|_=>true)=true→ ∀a w,wpList P ops Q l a w→wpListIn (FR r) 0 P ops Q l a w
 | [],_,a,w,h=>h
 |o::l,hd,a,w,h=>by
  simp only[List.all_cons,Bool.and_eq_true]at hd;unfold wpList at h;unfold wpListIn;split
  ·rename_i hw;rw[if_pos hw]at h;rcases h with h|h
   ·refine⟨fun _ _=>trivial,?_⟩;rw[Oper.semAt_eq _ _ _ (by intro c e;rw[e]at hd;exact Bool.noConfusion hd.1)];exact t2I (fun a w h=>n1U hQ l hd.2 a w h) hQ h
   ·exact(hQ h.2).elim
  ·rename_i hw;rw[if_neg hw]at h;exact⟨fun _ _=>trivial,n1U hQ l hd.2 _ _ h⟩
theorem p0A {id:Nat} {l:List Oper} (hQ: ¬LetsOut Q) (hd:(l.all fun o=>match o.op with| .defer _=>false|_=>true)=true) (h:OW c l.toArray Q l env L):CR r c (.region id l.toArray false) Q env L:=
 fun a w hh=>wpIn_region_lit (n1U hQ l hd a w (h a w hh))
theorem q0O {X:Act→World→Prop} (h: ¬LetsOut Q): ¬LetsOut (Exit.then X Q):=h
theorem p0B {id:Nat} (h: ¬LetsOut Q): ¬LetsOut (Exit.inBlock id Q):=h
theorem p0C {P:Program} {R:Ending→World→Prop} : ¬LetsOut (roundPost P r R):=fun⟨_,_,h⟩=>h
theorem v0N: ¬LetsOut (fun _ _ _=>False):=fun⟨_,_,h⟩=>h
theorem Sat.putL {w:World} {b:Nat} {o o':Obj} {L:List a0E} (h:Sat w (Sl.pts b o::L)):Sat (w.putObj b o') (Sl.pts b o'::L):=h.put
theorem u0H {w0 w:World} (h:d0S w0 w) (b:Nat) (o:Obj):d0S w0 (w.putObj b o):=⟨h.os,h.tape,h.output⟩
theorem i1U {rec:Loop} {M:List a0E} {X:Exit→Act→World→Prop} {Q':Exit→Act→World→Prop} (hr:rec.state= .ready) (hL:Fnd L (pts r (.loop rec)) M) (h:CR r c body Q' env (pts r (.loop {rec with state:= .busy})::M)):
 KW c (Exit.then (fun a w=> ∃w₂,(Instr.beginRound r).run c.P w= .ok () w₂∧body.wpIn (FR r) 0 c.P Q' a w₂) X) .normal env L:=by
 intro a w hh;have h1:=hL.sat hh.sat;exact⟨_,run_beginRound h1.pts hr,h _ _ ⟨hh.size,hh.slots,hh.defers,h1.putL,u0H hh.like _ _⟩⟩
theorem z0R {P:Program} {n:Nat} {rec:Loop} {p:Tmp} {v:Value} {Pre:List a0E} {Post:Ending→List a0E→Prop} (hps:rec.params= #[p]) (hsz:rec.tmps.size=n) (hsl: ∀t u,c0E env t=some u→rec.tmps[t]? =some u) (hp:Nat.blt p n=true)
 (h: ∀F w0,CR r ⟨P,n,[],w0⟩ rec.assign (Exit.then (fun a w=> ∃w₂,(Instr.beginRound r).run P w= .ok () w₂∧rec.body.wpIn (FR r) 0 P (roundPost P r fun e w'=> ∃L',Post e L'∧Sat w' (L'++ [F])∧d0S w0 w') a w₂) (fun _ _ _=>False)) ((p,v)::env) (pts r (.loop rec)::Pre++ [F])):
 b1M P r #[v] (pts r (.loop rec)::Pre) Post:=by
 intro w F hs;have hs':Sat w (pts r (.loop rec)::(Pre++ [F])):=hs;have hy:=run_yield (P:=P) (args:= #[v]) hs'.pts (by rw[hps];rfl);refine⟨_,_,_,_,hy,roundIn_of_wpIn trivial ?_⟩;refine h F w _ w ⟨?_,?_,rfl,hs,d0S.refl w⟩
 ·rw[hps];simp[hsz]
 ·intro t u ht;have e9:(Array.foldl (fun(tmps:Array Value) (x:Tmp×Value)=>match x with| (t,a)=>tmps.setIfInBounds t a) rec.tmps (#[p].zip #[v]))=rec.tmps.setIfInBounds p v:=by simp
  simp only[hps];rw[show((Array.foldl (fun(tmps:Array Value) (x:Tmp×Value)=>match x with| (t,a)=>tmps.setIfInBounds t a) rec.tmps (#[p].zip #[v]))[t]? =some u)=((rec.tmps.setIfInBounds p v)[t]? =some u) by rw[e9]];have hpn:p<rec.tmps.size:=by rw[hsz];exact Nat.lt_of_succ_le (by simpa [Nat.blt] using hp)
  rw[Array.getElem?_setIfInBounds];unfold c0E at ht;split at ht
  ·rename_i e;cases ht
   have:p=t:=Nat.eq_of_beq_eq_true e;rw[if_pos this,if_pos hpn]
  ·rename_i e;have: ¬p=t:=fun e'=>by rw[e']at e;simp at e
   rw[if_neg this];exact hsl t u ht
theorem m0I {id:Nat} (h:KW c Q .normal env L):KW c (Exit.inBlock id Q) .normal env L:=h
theorem q0P {id:Nat} {X:Act→World→Prop} (h:KW c Q (.exit id) env L):KW c (Exit.then X Q) (.exit id) env L:=h
theorem n0X {i id:Nat} (hne:(i == id)=false) (h:KW c Q (.exit i) env L):KW c (Exit.inBlock id Q) (.exit i) env L:=fun a w hh=>by
 have h1:=h a w hh;have h2: ¬i=id:=by simpa using hne
 unfold Exit.inBlock;simp only[h2,if_false];exact h1
theorem y0X {w0:World} {rec:Loop} {M:List a0E} {F:a0E} {Post:Ending→List a0E→Prop} (hL:Fnd L (pts r (.loop rec)) M)
 (hp: ∀w,Sat w (pts r (.loop {rec with state:= .ready,pending:=none})::M)→ ∃L',Post (.returned (.bool true)) L'∧Sat w (L'++ [F])) (hw:c.w0=w0):KW c (roundPost c.P r fun e w'=> ∃L',Post e L'∧Sat w' (L'++ [F])∧d0S w0 w') .normal env L:=by
 intro a w hh;have h1:=hL.sat hh.sat;obtain⟨L',h2,h3⟩:=hp _ h1.putL;exact⟨_,_,run_endRound none h1.pts,L',h2,h3,hw▸u0H hh.like _ _⟩
theorem d2V {w0:World} {rec:Loop} {M:List a0E} {F:a0E} {Post:Ending→List a0E→Prop} {id:Nat} (hL:Fnd L (pts r (.loop rec)) M)
 (hp: ∀w,Sat w (pts r (.loop {rec with state:= .done,pending:=some (.exit id)})::M)→ ∃L',Post (.returned (.bool false)) L'∧Sat w (L'++ [F])) (hw:c.w0=w0):KW c (roundPost c.P r fun e w'=> ∃L',Post e L'∧Sat w' (L'++ [F])∧d0S w0 w') (.exit id) env L:=by
 intro a w hh;have h1:=hL.sat hh.sat;obtain⟨L',h2,h3⟩:=hp _ h1.putL;exact⟨_,_,run_endRound (some (.exit id)) h1.pts,L',h2,h3,hw▸u0H hh.like _ _⟩
abbrev i0H (D:Nat):Deferred:= {target:= .collected D,args:= #[]}
def j0B (rec:Loop) (x:Option Code):Loop:= {rec with state:=if x.isNone then .ready else .done,pending:=x}
theorem i1V {P:Program} {n:Nat} {w0:World} {g:Operand} {gf:FuncId} {lb:List Value} {p:Tmp} {assign:Code} {Pre M:List a0E} {X:Type} {ok:X→Prop} {v:X→Value} {jump:X→Option Code} {N:X→List a0E}
 (hg:evo env g=some (.func (.func gf) #[] lb.toArray)) (hb:f0H P gf=true) (hL:b0A L Pre M)
 (hit: ∀(l D fn:Nat) (tmps:Array Value),tmps.size=n→(∀t u,c0E env t=some u→tmps[t]? =some u)→ ∀rec:Loop,rec= {state:= .ready,pending:=none,fn,tmps,params:= #[p],assign,body,defers:=D} →
  a0G P gf (.func (.yield l) #[] #[]::lb).toArray (pts l (.loop rec)::Pre) (b0P ok v (fun x=>pts l (.loop (j0B rec (jump x)))::N x)))
 (hdone: ∀(D:Nat) (x:X),ok x→jump x=none→KW ⟨P,n,[i0H D],w0⟩ Q .normal env (pts D (.deferred (some []))::(N x++M)))
 (hstop: ∀(D:Nat) (x:X) (k:Code),ok x→jump x=some k→CW ⟨P,n,[i0H D],w0⟩ k Q env (pts D (.deferred (some []))::(N x++M))):
 CW ⟨P,n,[],w0⟩ (.rangeFunc g #[p] assign body) Q env L:=by
 intro a w hh;refine wpIn_wide.1 (wpIn_rangeFunc (n:=0) ?_);intro fn _;obtain⟨rec,hrec⟩: ∃rec:Loop,rec= {state:= .ready,pending:=none,fn,tmps:=a.tmps,params:= #[p],assign,body,defers:=w.heap.size} :=⟨_,rfl⟩;have e0:=run_enterLoop_outer (P:=P) (w:=w) fn a.tmps #[p] assign body;rw[←hrec]at e0;obtain⟨W1,hW1⟩: ∃W1,(w.alloc (.deferred (some []))).alloc (.loop rec)=W1:=⟨_,rfl⟩;rw[hW1]at e0;have hs1:Sat W1 (pts (w.heap.size+1) (.loop rec)::pts w.heap.size (.deferred (some []))::L):=by
  rw[←hW1];have h1:=hh.sat.alloc (.deferred (some []));have h2:=h1.alloc (.loop rec)
  rwa [World.size_alloc]at h2
 have hl1:d0S w0 W1:=by rw[←hW1];exact(hh.like.alloc _).alloc _
 have hargs:(callFunc gf (.func (.yield (w.heap.size+1)) #[] #[]::lb).toArray).run P W1= .ok (.enter gf (.func (.yield (w.heap.size+1)) #[] #[]::lb).toArray) W1:=t0C hb _ _;refine⟨w.heap.size+1,[i0H w.heap.size],W1,{target:= .fn (.func gf) lb.toArray,args:= #[.func (.yield (w.heap.size+1)) #[] #[]]},W1,gf,(.func (.yield (w.heap.size+1)) #[] #[]::lb).toArray,W1,?_,?_,fun _ _=>trivial,?_,fun h=>absurd h (by decide),?_⟩
 ·exact e0
 ·simp only[resolve,hh.eval hg];simp[Deferred.ofValue,Sem.run_pure,Act.eval]
 ·simp only[invoke];have:(#[Value.func (.yield (w.heap.size+1)) #[] #[]]++lb.toArray)=(.func (.yield (w.heap.size+1)) #[] #[]::lb).toArray:=by simp
  rw[this];exact hargs
 ·refine callsIn_wide.2 ?_;have hsat:Sat W1 ((pts (w.heap.size+1) (.loop rec)::Pre)++ [b0E (pts w.heap.size (.deferred (some []))::M)]):=by
   have h1:Sat W1 (pts (w.heap.size+1) (.loop rec)::pts w.heap.size (.deferred (some []))::(Pre++M)):=hs1.perm (List.Perm.cons _ (List.Perm.cons _ hL));have h2:Sat W1 ((pts w.heap.size (.deferred (some []))::M)++(pts (w.heap.size+1) (.loop rec)::Pre)):=h1.perm (by
    refine List.Perm.trans ?_ List.perm_append_comm;refine List.Perm.cons _ ?_;exact List.perm_middle.symm)
   exact(b0M.2 h2).perm (List.perm_append_comm (l₁:= [b0E _]))
  refine(hit (w.heap.size+1) w.heap.size fn a.tmps hh.size hh.slots rec hrec W1 _ hsat).mono ?_;rintro e W2 ⟨L',⟨x,hx,rfl,rfl⟩,hs2,hl2⟩;have h3:Sat W2 (b0E (pts w.heap.size (.deferred (some []))::M)::(pts (w.heap.size+1) (.loop (j0B rec (jump x)))::N x)):=hs2.perm (List.perm_append_comm (l₂:= [b0E _]));have h4:Sat W2 (pts (w.heap.size+1) (.loop (j0B rec (jump x)))::(pts w.heap.size (.deferred (some []))::(N x++M))):=(b0M.1 h3).perm (by
   refine List.Perm.trans List.perm_append_comm ?_;refine List.Perm.cons _ ?_;exact List.perm_middle)
  have he:=run_endLoop (P:=P) h4.pts (by unfold j0B;simp only;split<;>simp);have h5:=(h4.putL (o':= .loop {j0B rec (jump x)with state:= .exhausted})).tail;have hl3:=u0H (hl1.trans hl2) (w.heap.size+1) (.loop {j0B rec (jump x)with state:= .exhausted});refine⟨_,_,he,?_⟩;cases hj:jump x with
  |none=>
   show Q .normal _ _;rw[hj]at h5 hl3;exact hdone _ x hx hj _ _ ⟨hh.size,hh.slots,by show [i0H _]++a.defers=_;rw[hh.defers];rfl,h5,hl3⟩
  |some k=>
   show k.wpIn Fence.wide 0 P Q _ _;rw[hj]at h5 hl3;exact wpIn_wide.2 (hstop _ x k hx hj _ _ ⟨hh.size,hh.slots,by show [i0H _]++a.defers=_;rw[hh.defers];rfl,h5,hl3⟩)
end
theorem Sat.sub {w:World} {L N M:List a0E} (h:Sat w L) (hL:b0A L N M):Sat w N:=((h.perm hL).perm List.perm_append_comm).drop
theorem n1V {P:Program} {f:FuncId} {args:Array Value} {Pre Pre':List a0E} {Post Post':Ending→List a0E→Prop} (hpre: ∀w F,Sat w (Pre'++ [F])→Sat w (Pre++ [F])) (h:a0G P f args Pre Post)
 (hpost: ∀e L,Post e L→ ∃L',Post' e L'∧ ∀w F,Sat w (L++ [F])→Sat w (L'++ [F])):a0G P f args Pre' Post':=fun w F hs=>(h w F (hpre w F hs)).mono fun e w' ⟨L,hp,h2,hl⟩=>by
 obtain⟨L',hp',hs'⟩:=hpost e L hp;exact⟨L',hp',hs' w' F h2,hl⟩
theorem i1W {P:Program} {l:Nat} {args:Array Value} {α:Type} {N:α→List a0E} {Post:Ending→List a0E→Prop} (h: ∀x,b1M P l args (N x) Post):b1M P l args [ex fun x=>b0E (N x)] Post:=fun w F hs=>by
 obtain⟨x,h1⟩:=g0K.1 hs;exact h x w F (b0M.1 h1)
def BPM (P:Program) (fn:Func) (Post:Ending→List a0E→Prop) (F:a0E) (w0:World):Exit→Act→World→Prop:=
 bodyPostM Fence.wide 0 P fn fun e w'=> ∃L',Post e L'∧Sat w' (L'++ [F])∧d0S w0 w'
theorem z0S {P:Program} {f:FuncId} {fn:Func} {code:Code} {args:List Value} {Pre:List a0E} {Post:Ending→List a0E→Prop} {n:Nat}
 (hf:P.funcs[f]? =some fn) (hb:fn.body=some code) (hn:fn.ntmps=n) (hle':Nat.ble args.length n=true)
 (h: ∀F w0,CW ⟨P,n,[],w0⟩ code (BPM P fn Post F w0) (j0X 0 args) (Pre++ [F])):a0G P f args.toArray Pre Post:=by
 have hle:args.length≤n:=Nat.le_of_ble_eq_true hle';intro w F hsat;refine callsIn_wide.1 (callsIn_of_wp_marks (n:=0) hf hb trivial (wpIn_wide.2 (h F w _ w ?_)));refine⟨by simp[hn];omega,?_,rfl,hsat,d0S.refl w⟩;intro t v ht;obtain⟨_,h2⟩:=r0H args 0 t v ht;simp only[Nat.sub_zero]at h2;have hlt:t<args.length:=by
  rcases Nat.lt_or_ge t args.length with h'|h'
  ·exact h'
  ·rw[List.getElem?_eq_none h']at h2;cases h2
 rw[Array.getElem?_append_left (by simpa using hlt)];simpa using h2
section
variable {P:Program} {n:Nat} {w0:World} {Q:Exit→Act→World→Prop} {env:List (Nat×Value)} {L:List a0E} {fn:Func} {Post:Ending→List a0E→Prop} {F:a0E}
theorem t2J {D:Nat} {e:Exit} (he:e= .ret∨e= .normal) (hq: ∀a w,BPM P fn Post F w0 e a w→Q e a w) {v:Value} (hv:q0H fn env=some v) {L' R:List a0E} (hL:b0A L (pts D (.deferred (some []))::F::L') R) (hp:Post (.returned v) L'):KW ⟨P,n,[i0H D],w0⟩ Q e env L:=by
 intro a w hh;have hs:Sat w (pts D (.deferred (some []))::(F::L'++R)):=hh.sat.perm hL;refine hq a w ?_;have key:LeavesInM Fence.wide 0 P fn a.tmps (fun e w'=> ∃L',Post e L'∧Sat w' (L'++ [F])∧d0S w0 w') a.defers .returning w:=by
  rw[show a.defers= [i0H D]from hh.defers];refine⟨by simp,.inl ⟨D,_,rfl,run_takeDeferred hs.pts,?_⟩⟩;refine⟨v,?_,L',hp,?_,u0H hh.like _ _⟩
  ·have hh2:b0J ⟨P,n,[i0H D],w0⟩ env (pts D (.deferred none)::(F::L'++R)) a (w.putObj D (.deferred none)):=⟨hh.size,hh.slots,hh.defers,hs.putL,u0H hh.like _ _⟩;exact b1G hh2 hv
  ·have h1:Sat (w.putObj D (.deferred none)) ((F::L')++R):=(hs.putL (o':= .deferred none)).tail;have h2:Sat (w.putObj D (.deferred none)) (F::L'):=(h1.perm List.perm_append_comm).drop;exact h2.perm (List.perm_append_comm (l₁:= [F]))
 rcases he with rfl|rfl<;>exact key
theorem g1L {D:Nat} (hq: ∀a w,BPM P fn Post F w0 .ret a w→Q .ret a w) {v:Value} (hv:q0H fn env=some v) {L' R:List a0E} (hL:b0A L (pts D (.deferred (some []))::F::L') R) (hp:Post (.returned v) L'):CW ⟨P,n,[i0H D],w0⟩ .ret Q env L:=
 s0A (t2J (.inl rfl) hq hv hL hp)
end
end
end Go.Sl
namespace Go.Sl
open Go.BigFrame
section
section
variable {c:Cx} {ops:Array Oper} {Q:Exit→Act→World→Prop} {rest:List Oper} {env:List (Nat×Value)} {L M:List a0E}
 {d:Tmp} {ty:TypeId} {pos:String} {af:Array Edge}
theorem d1R {s x:Operand} {t tx e size bytes n m:Nat} {base:Option Addr} {y z:Value} {xs news:List Value} (ht:c0X c.P t e size=true) (hby:r0K c.P e bytes=true)
 (hz:h0D c.P e=some z) (hzs:z.cells.size=size) (hs:evo env s=some (.slice base n n)) (hx:evo env x=some y)
 (hold: ∀a w,b0J c env L a w→(Builtin.firstCells size n (.slice base n n)).run c.P w.drew= .ok xs.toArray w.drew) (hxs:xs.length=n*size)
 (hsrc: ∀a w,b0J c env L a w→Src c.P size tx y m news w) (hm:0<m) (h63:n+m≤maxLen) (hb:(n+m)*bytes≤140737488355328)
 (h: ∀(b cap:Nat) (cur:List Value),n+m≤cap→cap≤maxLen→cur.length=cap*size→cur.take ((n+m)*size)=xs++news→OW c ops Q rest ((d,.slice (some ⟨b,0,none⟩) (n+m) cap)::env) (pts b (.cells cur.toArray e (0,0))::L)) (hd:Nat.blt d c.n=true:=by rfl):
 OW c ops Q (⟨some d,.call {callee:= .builtin .append,args:= #[s,x],argTypes:= #[t,tx]},ty,pos,af,none⟩::rest) env L:=by
 intro a w hh;simp only[c0X,Bool.and_eq_true]at ht;obtain⟨ht1,ht2⟩:=ht;split at ht1
 case h_2=>cases ht1
 rename_i e' hu;simp only[beq_iff_eq]at ht1;subst ht1;unfold r0K at hby;split at ht2
 case h_2=>cases ht2
 rename_i i hi;unfold h0D at hz;rw[hi]at hby hz;simp only[beq_iff_eq]at ht2 hby;subst ht2;subst hby;have hsr:=hsrc a w hh;refine wpList_plain rfl fun K hK=> ?_;have hnl:news.length=m*i.size:=hsr.newsLen;have hlen':(xs++news).length=(n+m)*i.size:=by rw[List.length_append,hxs,hnl,Nat.add_mul]
 have hr:=run_append_grow_src (P:=c.P) (w:=w) t tx ty e' i z hu hi hz base n n xs (hold a w hh) y m news hsr (by omega) (by simp only[maxLen]at h63;omega) (growslice_fits (by omega) hb);have hge:=grownCap_ge w (n+m) n e';have h2:((xs++news).toArray++Builtin.zeroCells z.cells (grownCap w (n+m) n e'- (n+m)))=((xs++news)++(Builtin.zeroCells z.cells (grownCap w (n+m) n e'- (n+m))).toList).toArray:=by
  apply Array.ext';simp
 rw[h2]at hr;unfold Oper.wp;rw[execOp_builtin,builtin_append];have e1:(#[s,x]:Array Operand).map a.eval= #[.slice base n n,y]:=by simp[hh.eval hs,hh.eval hx]
 rw[e1];simp only[Sem.run_bind,hr,Result.andThen_ok,Sem.run_pure,Oper.upon];refine hK _ _ (h w.heap.size _ _ hge (grownCap_le_maxLen w (n+m) n e' h63) ?_ ?_ _ _ ((⟨hh.size,hh.slots,hh.defers,(hh.sat.drew).alloc _,(hh.like.drew).alloc _⟩:b0J c env _ a _).put d _ hd))
 ·rw[List.length_append,hlen',Array.length_toList,size_zeroCells,hzs,←Nat.add_mul];congr 1;omega
 ·rw[←hlen'];exact List.take_left
theorem o2A {size n:Nat} {e:TypeId} {g:Nat} {cur xs:List Value} [hL:o0G L g (.cells cur.toArray e (0,0)) M] (hl:n*size≤cur.length) (ht:cur.take (n*size)=xs):
 ∀a w,b0J c env L a w→(Builtin.firstCells size n (.slice (some ⟨g,0,none⟩) n n)).run c.P w.drew= .ok xs.toArray w.drew:=by
 intro a w hh;have hM:=hL.sat hh.sat;have h1:=g0U (P:=c.P) (w:=w.drew) (b:=g) (o:=0) (n:=n*size) (cs:=cur.toArray) (e:=e) (fr:=(0,0)) hM.drew.pts (by rw[List.size_toArray,Nat.zero_add];exact hl);have h2:cur.toArray.extract 0 (0+n*size)=xs.toArray:=by apply Array.ext';simp[ht]
 simp only[Builtin.firstCells];rw[h1,h2]
theorem o2B {size:Nat} : ∀a w,b0J c env L a w→(Builtin.firstCells size 0 (.slice none 0 0)).run c.P w.drew= .ok ([]:List Value).toArray w.drew:=by
 intro a w hh;simp[Builtin.firstCells]
end
end
end Go.Sl
section
namespace Go.Sl
def edge (o:Oper) (i:Nat):Bool:=o.after.any fun e=>Region.binds .any e&&Nat.beq e.on i
def p0I (ops:List Oper):Bool:=
 ((List.range ops.length).all fun j=>match ops[j]? with|some o=>o.after.all (fun e=> !Region.binds .any e || Nat.blt e.on j)|none=>false)&&
 ((List.range (ops.length-1)).all fun i=>(List.range ops.length).any fun j=>Nat.blt i j&&(match ops[j]? with|some o=>edge o i|none=>false))
def DC (ops:List Oper) (l:Array Bool):Prop:= ∀(j:Nat) (o:Oper),ops[j]? =some o→l.getD j false=true→ ∀e∈o.after,Region.binds .any e=true→l.getD e.on false=true
section
variable {P:Program} {Q:Exit→Act→World→Prop} {l:List Oper} {o:Oper}
theorem y0Y (h:p0I (l++ [o])=true) {j:Nat} {p:Oper} (hj:(l++ [o])[j]? =some p): ∀e∈p.after,Region.binds .any e=true→e.on<j:=by
 simp only[p0I,Bool.and_eq_true]at h;have hlt:j<(l++ [o]).length:=by
  rcases Nat.lt_or_ge j (l++ [o]).length with h'|h'
  ·exact h'
  ·rw[List.getElem?_eq_none h']at hj;cases hj
 have h1:=List.all_eq_true.1 h.1 j (List.mem_range.2 hlt);rw[hj]at h1;intro e he hb;have h2:=Array.all_eq_true'.1 h1 e he;rw[hb]at h2;simpa using h2
theorem i2P (h:p0I (l++ [o])=true) {i:Nat} (hi:i<l.length): ∃j p,i<j∧(l++ [o])[j]? =some p∧ ∃e∈p.after,Region.binds .any e=true∧e.on=i:=by
 simp only[p0I,Bool.and_eq_true]at h;have h1:=List.all_eq_true.1 h.2 i (List.mem_range.2 (by simpa using hi));obtain⟨j,hj,h2⟩:=List.any_eq_true.1 h1;simp only[Bool.and_eq_true]at h2;obtain⟨h3,h4⟩:=h2;split at h4
 ·rename_i p hp;unfold edge at h4;obtain⟨e,he,h5⟩:=Array.any_eq_true'.1 h4;simp only[Bool.and_eq_true]at h5;exact⟨j,p,by simpa using h3,hp,e,he,h5.1,Nat.eq_of_beq_eq_true h5.2⟩
 ·cases h4
theorem o2C (h:p0I (l++ [o])=true) {ls:Array Bool} (hd:DC (l++ [o]) ls) (hr: ∀e∈o.after,Region.binds .any e=true→ls.getD e.on false=true): ∀i,i<l.length→ls.getD i false=true:=by
 have key: ∀k i,l.length-i=k→i<l.length→ls.getD i false=true:=by
  intro k
  induction k using Nat.strongRecOn with
  |_ k ih=>
   intro i hk hi;obtain⟨j,p,hij,hp,e,he,hb,rfl⟩:=i2P h hi;have hjl:j<l.length+1:=by
    rcases Nat.lt_or_ge j (l++ [o]).length with h'|h'
    ·simpa using h'
    ·rw[List.getElem?_eq_none h']at hp;cases hp
   by_cases hje:j=l.length
   ·subst hje;simp at hp;subst hp;exact hr e he hb
   ·exact hd j p hp (ih (l.length-j) (by omega) j rfl (by omega)) e he hb
 intro i hi;exact key _ i rfl hi
theorem b1O {ls:Array Bool} {n i:Nat} {b:Bool} (hs:ls.size=n+1) (hi:i<n):ls.pop.getD i b=ls.getD i b:=by
 have h1:i<ls.size:=by omega
 simp[Array.getD_eq_getD_getElem?,Array.getElem?_pop,hs,hi,Array.getElem?_eq_getElem h1]
theorem e1D (h:p0I (l++ [o])=true) {ls:Array Bool} (hs:ls.size=l.length+1) {i:Nat} (hi:i<l.length):i∈Region.ready .any (l++ [o]).toArray ls↔i∈Region.ready .any l.toArray ls.pop:=by
 rw[mem_ready,mem_ready,b1O hs hi];have e1:(l++ [o]).toArray[i]? =l.toArray[i]? :=by simp[List.getElem?_append_left hi]
 rw[e1];refine and_congr Iff.rfl ⟨?_,?_⟩
 ·rintro⟨p,hp,hall⟩;refine⟨p,hp,fun e he hb=> ?_⟩;have:=y0Y h (j:=i) (p:=p) (by simpa using e1.trans hp) e he hb;rw[b1O hs (by omega)];exact hall e he hb
 ·rintro⟨p,hp,hall⟩;refine⟨p,hp,fun e he hb=> ?_⟩;have:=y0Y h (j:=i) (p:=p) (by simpa using e1.trans hp) e he hb;have h2:=hall e he hb
  rwa [b1O hs (by omega)]at h2
theorem x0S {ops:List Oper} {ls:Array Bool} {i:Nat} (h:i∈Region.ready .any ops.toArray ls):i<ops.length:=by
 obtain⟨_,p,hp,_⟩:=mem_ready.1 h;rcases Nat.lt_or_ge i ops.length with h'|h'
 ·exact h'
 ·simp[List.getElem?_eq_none h']at hp
theorem h1M (h:p0I (l++ [o])=true) {ls:Array Bool} (hs:ls.size=l.length+1) (hr:Region.ready .any l.toArray ls.pop= []): ∀i,i<l.length→ls.getD i false=true:=by
 intro i
 induction i using Nat.strongRecOn with
 |_ i ih=>
  intro hi;cases hb:ls.getD i false with
  |true=>rfl
  |false=>
   exfalso;have:i∈Region.ready .any (l++ [o]).toArray ls:=by
    refine mem_ready.2 ⟨?_,l[i],by simp[List.getElem?_append_left hi],fun e he hbd=> ?_⟩
    ·simp only[Array.getD_eq_getD_getElem?]at hb ⊢;rw[Array.getElem?_eq_getElem (by omega)]at hb ⊢;exact hb
    ·have:=y0Y h (j:=i) (p:=l[i]) (by simp[List.getElem?_append_left hi]) e he hbd;exact ih e.on this (by omega)
   rw[e1D h hs hi,hr]at this;cases this
theorem i2Q {i:Nat} {K:Act→World→Prop} {X:Act→World→Prop} {a:Act} {w:World} (hi:i<l.length) (hg: ∀p:Oper,l[i]? =some p→ ∀g:Nat×Bool,p.guard=some g→g.1<l.length) (h:wpOp P l.toArray (Exit.then X Q) i K a w):wpOp P (l++ [o]).toArray Q i K a w:=by
 unfold wpOp at h ⊢;have e1:(l++ [o]).toArray[i]? =l.toArray[i]? :=by simp[List.getElem?_append_left hi]
 rw[e1];have hp:l.toArray[i]? =some l[i]:=by simp[hi]
 rw[hp]at h ⊢;simp only at h ⊢;have ew:Region.wanted l[i] (yielded (l++ [o]).toArray a.tmps)=Region.wanted l[i] (yielded l.toArray a.tmps):=by
  unfold Region.wanted;cases hgd:l[i].guard with
  |none=>rfl
  |some g=>
   obtain⟨j,wnt⟩:=g;have hj:=hg l[i] (by simp[hi]) (j,wnt) hgd;simp only[yielded];have:(l++ [o]).toArray[j]? =l.toArray[j]? :=by simp[List.getElem?_append_left hj]
   rw[this]
 rw[ew];split
 ·rename_i hw;rw[if_pos hw]at h;rcases h with h| ⟨ha,hl⟩
  ·left;rwa [n1N]at h
  ·exact .inr ⟨ha,hl⟩
 ·rename_i hw;rw[if_neg hw]at h;exact h
theorem d2W (h:p0I (l++ [o])=true) (hg: ∀(i:Nat) (p:Oper),l[i]? =some p→ ∀g:Nat×Bool,p.guard=some g→g.1<l.length): ∀(fuel:Nat) (ls:Array Bool) (a:Act) (w:World),ls.size=l.length+1→ls.getD l.length true=false→DC (l++ [o]) ls→
 wpAny P .any l.toArray (Exit.then (fun a w=>wpList P (l++ [o]).toArray Q [o] a w) Q) fuel ls.pop a w→wpAny P .any (l++ [o]).toArray Q (fuel+1) ls a w:=by
 have fin: ∀(fuel:Nat) (ls:Array Bool) (a:Act) (w:World),ls.size=l.length+1→ls.getD l.length true=false→(∀i,i<l.length→ls.getD i false=true)→wpList P (l++ [o]).toArray Q [o] a w→wpAny P .any (l++ [o]).toArray Q (fuel+1) ls a w:=by
  intro fuel ls a w hs hm hall hx;have hmr:l.length∈Region.ready .any (l++ [o]).toArray ls:=mem_ready.2 ⟨hm,o,by simp,fun e he hb=>hall e.on (y0Y h (j:=l.length) (p:=o) (by simp) e he hb)⟩;have hone: ∀i∈Region.ready .any (l++ [o]).toArray ls,i=l.length:=by
   intro i hi;have h1:=x0S hi;simp at h1;rcases Nat.lt_or_ge i l.length with h2|h2
   ·have h3:=(mem_ready.1 hi).1;have h4:=hall i h2;simp only[Array.getD_eq_getD_getElem?]at h3 h4;rw[Array.getElem?_eq_getElem (by omega)]at h3 h4;simp at h3 h4;rw[h3]at h4;cases h4
   ·omega
  refine⟨fun h0=>(by rw[h0]at hmr;cases hmr),fun i hi=> ?_⟩;rw[hone i hi];have hK: ∀a' w',Q .normal a' w'→wpAny P .any (l++ [o]).toArray Q fuel (ls.setIfInBounds l.length true) a' w':=by
   intro a' w' hq;have hno:Region.ready .any (l++ [o]).toArray (ls.setIfInBounds l.length true)= []:=by
    refine List.eq_nil_iff_forall_not_mem.2 fun i hi=> ?_;have h1:=x0S hi;simp at h1;have h3:=(mem_ready.1 hi).1;simp only[Array.getD_eq_getD_getElem?,Array.getElem?_setIfInBounds]at h3;split at h3
    ·split at h3<;>simp at h3
    ·have h4:=hall i (by omega);simp only[Array.getD_eq_getD_getElem?]at h4;rw[Array.getElem?_eq_getElem (by omega)]at h3 h4;simp at h3 h4;rw[h3]at h4;cases h4
   cases fuel with
   |zero=>exact⟨hno,hq⟩
   |succ f=>exact⟨fun _=>hq,by rw[hno];simp⟩
  unfold wpOp;have:(l++ [o]).toArray[l.length]? =some o:=by simp
  rw[this];simp only;unfold wpList at hx;split
  ·rename_i hw;rw[if_pos hw]at hx;rcases hx with hx| ⟨ha,hl⟩
   ·exact .inl (Oper.wp_mono (fun a' w' h'=>hK a' w' (by simpa [wpList] using h')) hx)
   ·exact .inr ⟨ha,hl⟩
  ·rename_i hw;rw[if_neg hw]at hx;exact hK _ _ (by simpa [wpList] using hx)
 intro fuel
 induction fuel with
 |zero=>
  intro ls a w hs hm hd hx;exact fin 0 ls a w hs hm (h1M h hs hx.1) hx.2
 |succ fuel ih=>
  intro ls a w hs hm hd hx;by_cases hr:Region.ready .any l.toArray ls.pop= []
  ·exact fin (fuel+1) ls a w hs hm (h1M h hs hr) (hx.1 hr)
  ·have hsub: ∀i∈Region.ready .any (l++ [o]).toArray ls,i<l.length:=by
    intro i hi;have h1:=x0S hi;simp at h1;rcases Nat.lt_or_ge i l.length with h2|h2
    ·exact h2
    ·exfalso;have hi':i=l.length:=by omega
     subst hi';obtain⟨_,p,hp,hall⟩:=mem_ready.1 hi;simp at hp;subst hp;have hal:=o2C h hd hall;apply hr;refine List.eq_nil_iff_forall_not_mem.2 fun k hk=> ?_;have hk1:=x0S hk;have h3:=(mem_ready.1 hk).1;rw[b1O hs hk1]at h3;have h4:=hal k hk1;simp only[Array.getD_eq_getD_getElem?]at h3 h4;rw[Array.getElem?_eq_getElem (by omega)]at h3 h4;simp at h3 h4;rw[h3]at h4;cases h4
   refine⟨fun h0=> ?_,fun i hi=> ?_⟩
   ·exfalso;obtain⟨k,hk⟩:=List.exists_mem_of_ne_nil _ hr;have:=(e1D h hs (x0S hk)).2 hk;rw[h0]at this;cases this
   ·have hil:=hsub i hi;have h1:=hx.2 i ((e1D h hs hil).1 hi);refine i2Q hil (hg i) (wpOp_mono (fun a' w' h'=>ih (ls.setIfInBounds i true) a' w' (by simpa using hs) ?_ ?_ ?_) h1)
    ·simp only[Array.getD_eq_getD_getElem?,Array.getElem?_setIfInBounds]at hm ⊢;rw[if_neg (by omega)];exact hm
    ·intro j p hp hj e he hb;simp only[Array.getD_eq_getD_getElem?,Array.getElem?_setIfInBounds]at hj ⊢;by_cases hie:i=e.on
     ·rw[if_pos hie,if_pos (by omega)];rfl
     ·rw[if_neg hie];by_cases hji:i=j
      ·subst hji;obtain⟨_,p',hp',hall⟩:=mem_ready.1 hi;have hpp:p=p':=by
        have h8:(l++ [o])[i]? =some p':=by simpa using hp'
        exact Option.some.inj (hp.symm.trans h8)
       subst hpp;have:=hall e he hb;simpa [Array.getD_eq_getD_getElem?] using this
      ·rw[if_neg hji]at hj;have:=hd j p hp (by simpa [Array.getD_eq_getD_getElem?] using hj) e he hb;simpa [Array.getD_eq_getD_getElem?] using this
    ·have:(ls.setIfInBounds i true).pop=ls.pop.setIfInBounds i true:=by
      apply Array.ext
      ·simp
      ·intro k h1 h2;have hk:k<ls.size-1:=by simpa using h1
       rw[Array.getElem_pop,Array.getElem_setIfInBounds (by omega),Array.getElem_setIfInBounds (by simpa using hk),Array.getElem_pop]
     rw[this];exact h'
end
def n1W (l:List Oper):Bool:=l.all fun p=>match p.guard with|some g=>Nat.blt g.1 l.length|none=>true
theorem s1X {l:List Oper} (h:n1W l=true): ∀(i:Nat) (p:Oper),l[i]? =some p→ ∀g:Nat×Bool,p.guard=some g→g.1<l.length:=by
 intro i p hp g hg;have:=List.all_eq_true.1 h p (List.mem_of_getElem? hp);rw[hg]at this;simpa using this
theorem i2R {c:Cx} {Q:Exit→Act→World→Prop} {env:List (Nat×Value)} {L R:List a0E} {id:Nat} {l:List Oper} {o:Oper} (plan:g0N) (K:List a0E) (hm:c.P.follows .mixedOrders=true)
 (hB:(p0I (l++ [o])&&(n1W l&&(Region.noSelect l.toArray&&(Nat.beq plan.len l.length&&k0V l.toArray plan [] (Array.replicate l.length false)))))=true) (hQ:b0T Q) (hK:b0A L K R)
 (h:OMf c l.toArray (Exit.then (fun a w=>wpList c.P (l++ [o]).toArray Q [o] a w) Q) K [] plan env L):CW c (.region id (l++ [o]).toArray true) Q env L:=by
 intro a w hh;simp only[Bool.and_eq_true]at hB;obtain⟨hB1,hB2,hB3,hB4,hB5⟩:=hB;have hh':=hh.drew;have hs:Sat w.drew K:=((hh'.sat.perm hK).perm List.perm_append_comm).drop;have h1:=h _ [] [] [] a w.drew hB5 hB3 hQ.then ⟨rfl,(fun p hp=>by cases hp),fun p hp=>by cases hp⟩ ⟨rfl,rfl⟩ (by simpa using hh') hs;have e:plan.len=l.length:=Nat.eq_of_beq_eq_true hB4;simp only[cnt,Nat.add_zero,ap]at h1;rw[e]at h1;refine wp_region_any hm ?_;have hsz:(l++ [o]).toArray.size=l.length+1:=by simp
 rw[hsz];refine d2W hB1 (s1X hB2) _ _ _ _ (by simp) (by simp) (fun j p _ hj=> ?_) ?_
 ·rw[Array.getD_eq_getD_getElem?,Array.getElem?_replicate]at hj;split at hj<;>simp at hj
 ·have:(Array.replicate (l.length+1) false).pop=Array.replicate l.length false:=by simp
  rw[this];exact wpAny_of_held _ _ _ _ h1
theorem a1K {c:Cx} {Q:Exit→Act→World→Prop} {env:List (Nat×Value)} {L:List a0E} {ops:Array Oper} {o:Oper} (h:OW c ops Q [o] env L):KW c (Exit.then (fun a w=>wpList c.P ops Q [o] a w) Q) .normal env L:=h
end Go.Sl
namespace Go.Sl
theorem v0O {c:Cx} {Q:Exit→Act→World→Prop} {env:List (Nat×Value)} {L R:List a0E} {id:Nat} {l:List Oper} (n:Nat) {o:Oper} (ho:l.drop n= [o]) (plan:g0N) (K:List a0E) (hm:c.P.follows .mixedOrders=true)
 (hB:(p0I l&&(n1W (l.take n)&&(Region.noSelect (l.take n).toArray&&(Nat.beq plan.len (l.take n).length&&k0V (l.take n).toArray plan [] (Array.replicate (l.take n).length false)))))=true) (hQ:b0T Q) (hK:b0A L K R)
 (h:OMf c (l.take n).toArray (Exit.then (fun a w=>wpList c.P l.toArray Q [o] a w) Q) K [] plan env L):CW c (.region id l.toArray true) Q env L:=by
 have e:l.take n++ [o]=l:=by rw[←ho];exact List.take_append_drop _ _
 have:=i2R (id:=id) (l:=l.take n) (o:=o) plan K hm (by rw[e];exact hB) hQ hK (by rw[e];exact h)
 rwa [e]at this
end Go.Sl
end
section
namespace Go.Sl
open Go.RowKit
theorem i2S {w w':World} {L:List a0E} (h:Sat w L) (hb:Below w.heap.size w w'):Sat w' L:=by
 obtain⟨l,h1,h2,h3⟩:=h;exact⟨l,h1,h2,fun b o hm=>by rw[hb.block b (r0F (h3 b o hm))];exact h3 b o hm⟩
theorem b1P {P:Program} {f:FuncId} {args:Array Value} {v:Value} (h: ∀w,Calls P f args w fun e w'=>e= .returned v∧Below w.heap.size w w'):a0G P f args [] (a0T v []):=by
 intro w F hs;refine(h w).mono ?_;rintro e w' ⟨rfl,hb⟩;exact⟨[],⟨rfl,rfl⟩,i2S hs hb,hb.os,hb.tape,hb.output⟩
theorem i2T {P:Program} {f:FuncId} {args:Array Value} {v:Value} (h: ∀w,Calls P f args w fun e w'=>e= .returned v∧(w'=w∨w'=w.drew)):a0G P f args [] (a0T v []):=
 b1P fun w=>(h w).mono fun e w' ⟨h1,h2⟩=>⟨h1,by
  rcases h2 with rfl|rfl
  ·exact Below.refl _ _
  ·exact(Below.refl _ _).drew⟩
end Go.Sl
namespace Go.Sl
theorem c0H {c:Cx} {ops:Array Oper} {Q:Exit→Act→World→Prop} {rest:List Oper} {env:List (Nat×Value)} {L M:List a0E} {ty:TypeId} {pos:String} {af:Array Edge}
 {t:TypeId} {x y:Operand} {b o n cap size:Nat} {e:TypeId} {xs xs':List Value} {v:Value}
 (ht:x0O c.P t (1)=true) (hx:evo env x=some (.pointer (some ⟨b,o,none⟩))) (hy:evo env y=some v) (h1:v.oneCell'=true)
 (hL:Fnd L (b0I e size (.slice (some ⟨b,0,none⟩) n cap) n xs) M) (ho:o<xs.length) (hc:xs.set o v=xs')
 (h:OW c ops Q rest env (b0I e size (.slice (some ⟨b,0,none⟩) n cap) n xs'::M)):OW c ops Q (⟨none,.store t x y,ty,pos,af,none⟩::rest) env L:=by
 intro a w hh;obtain⟨hl,hcase⟩:=f0O (hL.sat hh.sat);rcases hcase with ⟨h0,_⟩| ⟨b',cap',cur,h0,g1,g2,g3,g4,hs⟩
 ·cases h0
 ·simp only[Value.slice.injEq,Option.some.injEq,Addr.mk.injEq]at h0;obtain⟨⟨rfl,_,_⟩,_,rfl⟩:=h0;have hlt:o<cur.length:=by
   have:xs.length≤cur.length:=by rw[←g4];simp;omega
   omega
  refine d0T (c:=c) (L:=pts b (.cells cur.toArray e (0,0))::M) (M:=M) (cs':=cur.set o v) ht hx hy h1 (by rw[Nat.blt_eq];exact hlt) rfl (fun a w hh=> ?_) a w ⟨hh.size,hh.slots,hh.defers,hs,hh.like⟩;refine h a w ⟨hh.size,hh.slots,hh.defers,r0J hh.sat g1 g2 (by simpa using g3) ?_,hh.like⟩;rw[List.take_set,g4,hc]
end Go.Sl
end
namespace Go.Sl
open Go.BigFrame
section
section
variable {c:Cx} {ops:Array Oper} {Q:Exit→Act→World→Prop} {rest:List Oper} {env:List (Nat×Value)} {L M:List a0E}
 {d:Tmp} {ty:TypeId} {pos:String} {af:Array Edge} {g:Option (Nat×Bool)} {dd:Option Tmp}
theorem b1Q {t len e n:TypeId} {x:Operand} {b o:Nat} (ht:k0Y c.P t len e n=true) (hx:evo env x=some (.pointer (some ⟨b,o,none⟩))):
 a0P c ⟨dd,.slice t x none none none,ty,pos,af,g⟩ env L (.slice (some ⟨b,o,none⟩) len len):=by
 intro a w h;simp only[k0Y,Bool.and_eq_true]at ht;obtain⟨h1,h2⟩:=ht;split at h1
 ·rename_i l z hu;simp at h1;obtain⟨rfl,rfl⟩:=h1;split at h2
  ·rename_i info hinfo;simp at h2;subst h2;simp[execOp,h.eval hx,Instr.sliceAt,run_underlying hu,Instr.sureAddr,Instr.sliceBounds,Instr.sliceBound,sizeOf,typeInfo,hinfo,Addr.add]
  ·cases h2
 ·cases h1
theorem l1B {t tx e:TypeId} {x y:Operand} {b o n cap:Nat} {s:ByteArray} {cs cs':List Value} {eb:TypeId} (ht:c0X c.P t e 1=true) (hx:evo env x=some (.slice (some ⟨b,o,none⟩) n cap)) (hy:evo env y=some (.string s))
 [hL:o0G L b (.cells cs.toArray eb (0,0)) M] (ho:o+min s.size n≤cs.length) (hc:cs.take o++(s.data.toList.take n).map a0Q++cs.drop (o+min s.size n)=cs')
 (h:OW c ops Q rest ((d,.int .i64 (min s.size n:Nat))::env) (pts b (.cells cs'.toArray eb (0,0))::M)) (hd:Nat.blt d c.n=true:=by rfl):
 OW c ops Q (⟨some d,.call {callee:= .builtin .copy,args:= #[x,y],argTypes:= #[t,tx]},ty,pos,af,none⟩::rest) env L:=by
 intro a w hh;simp only[c0X,Bool.and_eq_true]at ht;obtain⟨ht1,ht2⟩:=ht;split at ht1
 case h_2=>cases ht1
 rename_i e' hu;simp only[beq_iff_eq]at ht1;subst ht1;split at ht2
 case h_2=>cases ht2
 rename_i i hi;simp only[beq_iff_eq]at ht2;have hsat:=hL.sat hh.sat;have hb:=hsat.pts;have hlen:((s.data.toList.take n).map a0Q).length=min s.size n:=by simp[Nat.min_comm]
 have hst:=n0T (P:=c.P) ((s.data.toList.take n).map a0Q) o 0 cs.toArray w hb (by rw[hlen];simpa using ho) (by
  intro v hv;obtain⟨u,_,rfl⟩:=List.mem_map.1 hv;rfl)
 have hcs:(cs.toArray.extract 0 (o+0)++((s.data.toList.take n).map a0Q).toArray++cs.toArray.extract (o+0+((s.data.toList.take n).map a0Q).length) cs.toArray.size)=cs'.toArray:=by
  rw[hlen,←hc];apply Array.ext';simp[List.take_of_length_le]
 rw[hcs]at hst;refine wpList_plain rfl fun K hK=> ?_;unfold Oper.wp;rw[execOp_builtin,builtin_copy];have e1:(#[x,y]:Array Operand).map a.eval= #[.slice (some ⟨b,o,none⟩) n cap,.string s]:=by simp[hh.eval hx,hh.eval hy]
 rw[e1];have hrun:(Builtin.copy_ #[t,tx] ty #[.slice (some ⟨b,o,none⟩) n cap,.string s]).run c.P w= .ok (.int .i64 (min s.size n:Nat)) (put w b (.cells cs'.toArray eb (0,0))):=by
  simp only[Builtin.copy_,Sem.run_bind,Sem.run_pure,run_underlying hu,Result.andThen_ok,Builtin.lenOf,Builtin.firstCells,sizeOf,typeInfo,hi];simp[run_underlying hu,Builtin.lenOf,Builtin.firstCells,sizeOf,typeInfo,hi,ht2];have e2:List.take (s.size.min n) (List.map (fun b:UInt8=>Value.int IntKind.u8 b.toNat) s.data.toList)=(s.data.toList.take n).map a0Q:=by
   rw[←List.map_take];have:s.data.toList.take (s.size.min n)=s.data.toList.take n:=by
    rw[show s.size.min n=min s.size n from rfl,List.take_eq_take_iff];simp;omega
   rw[this];rfl
  rw[e2,hst];rfl
 simp only[Sem.run_bind,hrun,Result.andThen_ok,Sem.run_pure,Oper.upon];exact hK _ _ (h _ _ ((⟨hh.size,hh.slots,hh.defers,hsat.put,hh.like.put _ _⟩:b0J c env _ a _).put d _ hd))
theorem r0M {t len e n:TypeId} {parts:List (Nat×Operand)} {z:Value} {ps:List (Nat×Value)} {cs:List Value} (ht:k0Y c.P t len e n=true) (hz:h0D c.P t=some z)
 (hv:p0X env parts=some ps) (hf:m0O (fun i=>some (i*n,n)) z.cells.toList (ps.map fun(i,v)=>(i,v.cells.toList))=some cs):a0P c ⟨some d,.build t parts.toArray,ty,pos,af,g⟩ env L (.agg cs.toArray):=by
 intro a w hh;have h1:(parts.toArray.map fun(i,x)=>(i,a.eval x)).toList=ps:=by simpa using v0B hh parts ps hv
 have hb:c.P.built t (parts.toArray.map fun(i,x)=>(i,a.eval x)).toList=some cs.toArray:=by
  rw[h1];simp only[k0Y,Bool.and_eq_true]at ht;obtain⟨h1,h2⟩:=ht;unfold Program.built;split at h1
  ·rename_i l y hu;simp at h1;obtain⟨rfl,rfl⟩:=h1;split at h2
   ·rename_i info hinfo;simp at h2;subst h2;unfold h0D at hz;split at hz
    ·rename_i it hit;simp only[hit,hu,hz,hinfo];exact w0J ps z.cells cs hf
    ·cases hz
   ·cases h2
  ·cases h1
 unfold execOp;simp only[Sem.run_bind,run_build w t _ _ hb,Result.andThen_ok,Sem.run_pure]
end
open Go.Sb in
theorem k0A {P:Program} {n:Nat} {w0:World} {Q:Exit→Act→World→Prop} {env:List (Nat×Value)} {L:List a0E} {fn:Func} {F:a0E} {S α:Type} {ft:TypeId} {R:S→List a0E} {val:α→Value} {o:Out α×S} {a:α} {s:S} {R':List a0E}
 (ho:o=(.ok a,s)) (hq: ∀x w,BP P fn (Ran ft R val o) F w0 .ret x w→Q .ret x w) {us:List Value} (hv:RV ⟨P,n,[],w0⟩ env L fn.results.toList us) (hu:b1H us=val a) (hL:b0A L (F::R s) R'):CW ⟨P,n,[],w0⟩ .ret Q env L:=by
 subst ho;exact s0A (n1L hq hv hL ⟨by rw[hu],rfl⟩)
end
end Go.Sl

/- Part of the proof; no statement of its own. -/
import Derived.Test.YtpinhnikemamjaaGreatDoorD08
import Derived.Test.YtpinhnikemamjaaGreatDoorD19
import Derived.Test.YtpinhnikemamjaaGreatDoorD07
set_option linter.all false
set_option maxRecDepth 4000
set_option maxHeartbeats 4000000
attribute [local irreducible] Go.Sl.a0P Go.Sl.OW Go.Sl.CW Go.Sl.OS Go.Sl.OM Go.Sl.OMf Go.Sl.KM
namespace Go.Proofs.Q
open Go.Sl Go.Sb Tryz
structure Ad where
 disk:Nat
 vd:Value
 log:Nat
 gr:Nat
 grl:Nat
 refs:Nat
 heap:Nat
 st:Nat
 ix:Nat
 maps:Nat
 core:Nat
 vols:Nat
abbrev ptr (b:Nat):Value:= .pointer (some ⟨b,0,none⟩)
abbrev e0B (b:Nat) (t:TypeId) (v:Value):Nat×Obj:=(b,.cells #[v] t (0,0))
def f0U (x:Ent):List Value:= [.int .u32 x.id,.int .u32 x.parent,.bool x.only,.int .i64 x.size,.int .i64 x.root,.int .u32 x.born]
def d0X (s:B):Value:= .agg (s.map a0Q).toArray
def e0E (x:Ent):Value:= .agg (f0U x).toArray
abbrev clo (f:FuncId) (bs:List Nat):Value:= .func (.func f) #[] (bs.map ptr).toArray
def a0H (x:Int):Value:= .int .i64 x
def e0J (x:Int):Value:= .int .u32 x
def n0E (x:Value) (w:List Int) (c:List (Nat×Obj)):Prop:=(∀k∈w,inR k=true)∧(w= []∧x= .slice none 0 0∧c= []∨
 ∃(g cap:Nat) (cur:List Value),x= .slice (some ⟨g,0,none⟩) w.length cap∧w.length≤cap∧cap≤maxLen∧cur.length=cap∧cur.take w.length=w.map a0H∧c= [(g,.cells cur.toArray 3 (0,0))])
def s0E (a:Ad) (by_:Nat):c0U→Value→List (Nat×Obj)→Prop
 | .give k,v,c=>inR k=true∧ ∃b1 b2,v=clo 284 [b1,b2]∧c= [e0B b1 55 (ptr a.heap),e0B b2 3 (.int .i64 k)]
 | .back k,v,c=>inR k=true∧ ∃b1 b2,v=clo 259 [b1,b2]∧c= [e0B b1 55 (ptr a.heap),e0B b2 3 (.int .i64 k)]
 | .keep w,v,c=> ∃b1 b2,v=clo 195 [b1,b2]∧c= [e0B b1 3 (.int .i64 w),e0B b2 236 (.pointer (some ⟨a.heap,6,none⟩))]
 | .next w,v,c=> ∃b1 b2,v=clo 221 [b1,b2]∧c= [e0B b1 47 (.int .u32 w),e0B b2 256 (.pointer (some ⟨a.core,3,none⟩))]
 | .gone w,v,c=> ∃b1 b2 x b3,v=clo 287 [b1,b2]∧c=e0B b1 90 x::e0B b2 319 (.pointer (some ⟨a.heap,5,none⟩))::b3∧n0E x w b3
 | .refs k w,v,c=> ∃b1 b2 b3 b4,(v=clo 282 [b1,b2,b3,b4]∨v=clo 286 [b1,b2,b3,b4])∧
  c= [e0B b1 89 (.map (some a.refs)),e0B b2 3 (.int .i64 k),e0B b3 3 (.int .i64 (w.getD 0)),e0B b4 4 (.bool w.isSome)]
 | .young k w,v,c=> ∃b1 b2 b3 b4,(v=clo 282 [b1,b2,b3,b4]∨v=clo 286 [b1,b2,b3,b4])∧
  c= [e0B b1 89 (.map (some by_)),e0B b2 3 (.int .i64 k),e0B b3 3 (.int .i64 (w.getD 0)),e0B b4 4 (.bool w.isSome)]
 | .index k w,v,c=>k.length=32∧ ∃b1 b2 b3 b4,(v=clo 253 [b1,b2,b3,b4]∨v=clo 279 [b1,b2,b3,b4])∧
  c= [e0B b1 208 (.map (some a.ix)),(b2,.cells (k.map a0Q).toArray 44 (0,0)),e0B b3 3 (.int .i64 (w.getD 0)),e0B b4 4 (.bool w.isSome)]
 | .vols k w,v,c=> ∃b1 b2 b3 b4,(v=clo 166 [b1,b2,b3,b4]∨v=clo 169 [b1,b2,b3,b4])∧
  c= [e0B b1 57 (.map (some a.vols)),e0B b2 47 (.int .u32 k),(b3,.cells (f0U (w.getD g0L)).toArray 50 (0,0)),e0B b4 4 (.bool w.isSome)]
abbrev Own:=List (c0U×Value×List (Nat×Obj))
def Own.cells (o:Own):List a0E:=(o.flatMap fun e=>e.2.2).map fun p=>pts p.1 p.2
def p0O (a:Ad) (by_:Nat) (o:Own) (log:List c0U) (vals:List Value):Prop:=
 log.length≤1000000000∧ ∃live rest:Own,o.Perm (live++rest)∧live.map (·.1)=log∧live.map (·.2.1)=vals∧ ∀e∈live,s0E a by_ e.1 e.2.1 e.2.2
theorem p0O.len {a:Ad} {by_:Nat} {o:Own} {log:List c0U} {vals:List Value} (h:p0O a by_ o log vals):log.length=vals.length:=by
 obtain⟨_,live,rest,_,rfl,rfl,_⟩:=h;simp
def p2H (a:Ad) (by_:Nat) (o:Own) (log:List c0U) (depth:Nat) (v:Value) (vals:List Value):List a0E:=
 [pts a.log (.cells #[v,.int .i64 depth] 154 (0,0)),b0I 1 1 v vals.length vals,b0E (Own.cells o),m0X (p0O a by_ o log vals∧depth≤1000000000)]
def e0K (a:Ad) (by_:Nat) (o:Own) (log:List c0U) (depth:Nat):a0E:=ex fun x:Value×List Value=>b0E (p2H a by_ o log depth x.1 x.2)
section
attribute [local semireducible] Sl.a0P Sl.OW Sl.CW Sl.OS Sl.OM Sl.OMf Sl.KM
section
variable {c:Cx} {ops:Array Oper} {Q:Exit→Act→World→Prop} {rest:List Oper} {env:List (Nat×Value)} {L M:List a0E} {y:Code} {a:Ad} {by_:Nat} {o:Own} {log:List c0U} {depth:Nat}
theorem y0I (hL:Fnd L (e0K a by_ o log depth) M) (h: ∀v vals,p0O a by_ o log vals→depth≤1000000000→v.oneCell'=true→CW c y Q env (pts a.log (.cells #[v,.int .i64 depth] 154 (0,0))::b0I 1 1 v vals.length vals::b0E (Own.cells o)::M)):CW c y Q env L:=by
 refine v0M hL fun x=> ?_;simp only[p2H,List.cons_append,List.nil_append];intro e w b;have f:=b.sat;have g:Sat w (m0X (p0O a by_ o log x.2∧depth≤1000000000)::pts a.log (.cells #[x.1,.int .i64 depth] 154 (0,0))::b0I 1 1 x.1 x.2.length x.2::b0E (Own.cells o)::M):=
  f.perm (Fnd.there (Fnd.there (Fnd.there Fnd.here)))
 obtain⟨⟨i,j⟩,d⟩:=u0D.1 g;exact h x.1 x.2 i j (n1O (d.perm (Fnd.there Fnd.here))) e w ⟨b.size,b.slots,b.defers,d,b.like⟩
theorem q0D {v:Value} {vals:List Value} (b:p0O a by_ o log vals) (hd:depth≤1000000000)
 (hL:b0A L [pts a.log (.cells #[v,.int .i64 depth] 154 (0,0)),b0I 1 1 v vals.length vals,b0E (Own.cells o)] M) (w:World) (h:Sat w L):Sat w (e0K a by_ o log depth::M):=by
 refine g0K.2 ⟨(v,vals),b0M.2 ?_⟩;have c:=n0V (p:=p0O a by_ o log vals∧depth≤1000000000) ⟨b,hd⟩ w (h.perm hL);exact c.perm (List.perm_middle (l₁:= [pts a.log (.cells #[v,.int .i64 depth] 154 (0,0)),b0I 1 1 v vals.length vals,b0E (Own.cells o)])).symm
theorem u2O {st:c0U} {v:Value} {cells:List (Nat×Obj)} {w:World} (h:Sat w (b0E (Own.cells o)::b0E (cells.map fun p=>pts p.1 p.2)::M)):Sat w (b0E (Own.cells ((st,v,cells)::o))::M):=by
 have a:Sat w (b0E (cells.map fun p=>pts p.1 p.2)::b0E (Own.cells o)::M):=h.perm (List.Perm.swap _ _ _);have b:=b0M.1 a;have c:Sat w (b0E (Own.cells o)::((cells.map fun p=>pts p.1 p.2)++M)):=b.perm List.perm_middle;have d:=b0M.1 c;refine b0M.2 ?_;have e:Own.cells ((st,v,cells)::o)=(cells.map fun p=>pts p.1 p.2)++Own.cells o:=by simp[Own.cells]
 rw[e,List.append_assoc];exact d.perm ((List.append_assoc _ _ _).symm▸(List.perm_append_comm.append_right M).trans (by rw[List.append_assoc]))
theorem v1B {w:World} {e:c0U×Value×List (Nat×Obj)} {b:Nat} {c:Obj} (j:e∈o) (hb:(b,c)∈e.2.2) (h:Sat w (e0K a by_ o log depth::M)):w.heap[b]? =some c:=by
 obtain⟨x,g⟩:=g0K.1 h;have d:=b0M.1 g;simp only[p2H,List.cons_append,List.nil_append]at d;have i:Sat w (b0E (Own.cells o)::pts a.log (.cells #[x.1,.int .i64 depth] 154 (0,0))::b0I 1 1 x.1 x.2.length x.2::m0X (p0O a by_ o log x.2∧depth≤1000000000)::M):=
  d.perm (Fnd.there (Fnd.there Fnd.here))
 have f:=b0M.1 i;have l:pts b c∈Own.cells o:=List.mem_map.2 ⟨(b,c),List.mem_flatMap.2 ⟨e,j,hb⟩,rfl⟩;obtain⟨m,n,k⟩:=List.append_of_mem l;rw[k,List.append_assoc,List.cons_append]at f;exact(f.perm List.perm_middle).pts
theorem c0F {dd:Option Tmp} {ty:TypeId} {pos:String} {af:Array Edge} {g:Option (Nat×Bool)} {x:Operand} {t f:TypeId} {b k:Nat} {cs:List Value} {e:c0U×Value×List (Nat×Obj)} {v:Value} (j:f0Q c.P t=true) (l:evo env x=some (.pointer (some ⟨b,k,none⟩)))
 (hL:Fnd L (e0K a by_ o log depth) M) (h:e∈o) (hb:(b,.cells cs.toArray f (0,0))∈e.2.2) (d:nth cs k=some v):Sl.a0P c ⟨dd,.load t x,ty,pos,af,g⟩ env L v:=
 w0Z j l hL fun w L' i=>by
  have:=v1B h hb i;rw[e0F]at d;simp[World.cell?,this,d]
theorem e1W {dd:Option Tmp} {ty:TypeId} {pos:String} {af:Array Edge} {g:Option (Nat×Bool)} {x:Operand} {t h:TypeId} {b n:Nat} {cs:Array Value} {e:c0U×Value×List (Nat×Obj)} {v:Array Value} (f:o0N c.P t n=true) (m:evo env x=some (.pointer (some ⟨b,0,none⟩)))
 (hL:Fnd L (e0K a by_ o log depth) M) (j:e∈o) (hb:(b,.cells cs h (0,0))∈e.2.2) (k:0+n≤cs.size) (l:cs.extract 0 (0+n)=v):Sl.a0P c ⟨dd,.load t x,ty,pos,af,g⟩ env L (.agg v):=by
 intro p w d;have i:=v1B j hb (hL.sat d.sat);subst l;simp[execOp,d.eval m,Instr.loadAt,Instr.sureAddr,loadVar,j0A f,j0H f,g0U i k]
end
theorem f2C {a:Ad} {by_:Nat} {o:Own} {log:List c0U} {vals:List Value} {st:c0U} {v:Value} {cells:List (Nat×Obj)} (h:p0O a by_ o log vals) (g:s0E a by_ st v cells) (d:log.length<1000000000):
 p0O a by_ ((st,v,cells)::o) (log++ [st]) (vals++ [v]):=by
 obtain⟨i,live,rest,f,rfl,rfl,c⟩:=h;refine⟨by simp at d ⊢;omega,live++ [(st,v,cells)],rest,?_,by simp,by simp,?_⟩
 ·rw[List.append_assoc];exact(List.Perm.cons _ f).trans List.perm_middle.symm
 ·intro e b;rcases List.mem_append.1 b with b|b
  ·exact c e b
  ·simp at b;subst b;exact g
theorem f2D {a:Ad} {by_:Nat} {o:Own} {log:List c0U} {vals:List Value} {e:c0U×Value×List (Nat×Obj)} (h:p0O a by_ o log vals):p0O a by_ (e::o) log vals:=
 by
  obtain⟨b,live,rest,g,c,d,f⟩:=h;exact⟨b,live,e::rest,(List.Perm.cons _ g).trans List.perm_middle.symm,c,d,f⟩
theorem v1C {a:Ad} {by_:Nat} {o:Own} {log:List c0U} {depth:Nat} {M:List a0E} {w:World} {v c:Value} {vals:List Value} {st:c0U} {cells:List (Nat×Obj)} {F:List a0E} (b:p0O a by_ ((st,c,cells)::o) log vals) (hd:depth≤1000000000)
 (hL:b0A M [b0E (Own.cells o),b0E (cells.map fun p=>pts p.1 p.2),pts a.log (.cells #[v,.int .i64 depth] 154 (0,0)),b0I 1 1 v vals.length vals] F) (h:Sat w M):Sat w (e0K a by_ ((st,c,cells)::o) log depth::F):=
 q0D b hd (b0A.cons (Fnd.there Fnd.here) (b0A.cons (Fnd.there Fnd.here) (b0A.cons Fnd.here b0A.nil))) w (u2O (h.perm hL))
attribute [local irreducible] Sl.a0P Sl.OW Sl.CW Sl.OS Sl.OM Sl.OMf Sl.KM
theorem e1X (a:Ad) (by_:Nat) (o:Own) (log:List c0U) (depth:Nat) (st:c0U) (f:FuncId) (i:List Nat) (cells:List (Nat×Obj)) (n:s0E a by_ st (clo f i) cells) (m:log.length<1000000000):
 a0G prog 165 #[ptr a.log,clo f i] [e0K a by_ o log depth,b0E (cells.map fun p=>pts p.1 p.2)] (a0T (.tuple #[]) [e0K a by_ ((st,clo f i,cells)::o) (bk depth log st) depth]):=by
 refine en func165 ntmps165 fun R w0=> ?_;refine y0I gFd fun v0 vals d g q=> ?_;have j:=d.len;refine go 9 ?_;refine a0O rfl (fun c=> ?_) (fun c=> ?_)
 ·have b:0<depth:=by have:=of_decide_eq_true c;omega
  refine go 7 ?_;refine bl fun l=> ?_;refine(d0E Tsl.o Ttb.o Zr.o rfl rfl rfl gFd (f0I Tsl.o (by simp;rfl) (by simp) (by simp[Value.oneCell'])) (by simp only[maxLen];omega) (by omega) (fun r k=> ?_));refine go 4 ?_;have e:bk depth log st=log++ [st]:=if_pos b;rw[e];exact b0F (fun w h=>v1C (vals:=vals++ [clo f i]) (f2C d n m) g (by rw[List.length_append];exact gSp) h) (d0Q rfl rfl gSp)
 ·have b: ¬0<depth:=by have:=of_decide_eq_false c;omega
  refine go 1 ?_;have e:bk depth log st=log:=if_neg b;rw[e];exact b0F (fun w h=>v1C (vals:=vals) (f2D d) g gSp h) (d0Q rfl rfl gSp)
end
theorem h1V {P:Program} {f:FuncId} {args:Array Value} {A:a0E} {N:List a0E} {Post:Ending→List a0E→Prop} (h:a0G P f args [A,b0E N] Post):a0G P f args (A::N) Post:=by
 intro w F c;refine h w F ?_;have a:Sat w (N++(F:: [A])):=c.perm (by
  show List.Perm (A::(N++ [F])) _;exact((List.perm_append_singleton A (N++ [F])).symm).trans (by simp))
 have b:=b0M.2 a;exact b.perm (by show List.Perm [b0E N,F,A] [A,b0E N,F];exact(List.perm_append_comm (l₁:= [b0E N,F]) (l₂:= [A])))
theorem c1P (a:Ad) (by_:Nat) (o:Own) (log:List c0U) (depth:Nat) (st:c0U) (f:FuncId) {b c:Nat} {d e:Obj} {x y:Nat} (h:s0E a by_ st (clo f [b,c]) [(x,d),(y,e)]) (g:log.length<1000000000):
 a0G prog 165 #[ptr a.log,.func (.func f) #[] #[ptr b,ptr c]] [e0K a by_ o log depth,pts x d,pts y e] (a0T (.tuple #[]) [e0K a by_ ((st,clo f [b,c],[(x,d),(y,e)])::o) (bk depth log st) depth]):=
 h1V (e1X a by_ o log depth st f [b,c] [(x,d),(y,e)] h g)
theorem g1W (a:Ad) (by_:Nat) (o:Own) (log:List c0U) (depth:Nat) (st:c0U) (f:FuncId) {b c d e:Nat} {g h i j:Obj} {x y z u:Nat} (l:s0E a by_ st (clo f [b,c,d,e]) [(x,g),(y,h),(z,i),(u,j)]) (k:log.length<1000000000):
 a0G prog 165 #[ptr a.log,.func (.func f) #[] #[ptr b,ptr c,ptr d,ptr e]] [e0K a by_ o log depth,pts x g,pts y h,pts z i,pts u j] (a0T (.tuple #[]) [e0K a by_ ((st,clo f [b,c,d,e],[(x,g),(y,h),(z,i),(u,j)])::o) (bk depth log st) depth]):=
 h1V (e1X a by_ o log depth st f [b,c,d,e] [(x,g),(y,h),(z,i),(u,j)] l k)
def c0R (a:Ad) (by_:Nat) (gv:Value) (keep:Int):List Value:= [ptr a.disk,ptr a.log,ptr a.gr,.map (some a.refs),.map (some by_),gv,.int .i64 keep]
abbrev i0R (a:Ad) (by_:Nat) (gv:Value) (keep:Int):a0E:=pts a.heap (.cells (c0R a by_ gv keep).toArray 92 (0,0))
def o0F (a:Ad) (next epoch:Int):List Value:= [ptr a.heap,ptr a.maps,.map (some a.vols),.int .u32 next,.int .u32 epoch]
abbrev s0F (a:Ad) (next epoch:Int):a0E:=pts a.core (.cells (o0F a next epoch).toArray 59 (0,0))
abbrev z0Y (a:Ad) (by_:Nat) (o:Own) (log:List c0U) (depth:Nat) (st:c0U) (A:List a0E):Ending→List a0E→Prop:=
 b0P (fun _:c0U×Value×List (Nat×Obj)=>True) (fun _=> .tuple #[]) (fun e=>e0K a by_ (e::o) (bk depth log st) depth::A)
theorem y1Y (a:Ad) (by_:Nat) (o:Own) (log:List c0U) (depth:Nat) (gv:Value) (b to_:Int) (c:log.length<1000000000):
 a0G prog 162 #[ptr a.log,.pointer (some ⟨a.heap,6,none⟩),.int .i64 to_] [e0K a by_ o log depth,i0R a by_ gv b] (z0Y a by_ o log depth (.keep b) [i0R a by_ gv to_]):=by
 refine en func162 ntmps162 fun R w0=> ?_
 try simp only[c0R]
 refine go 2 ?_;refine bx fun d=> ?_;refine go 7 ?_;refine al fun e=> ?_;refine go 7 ?_;refine b0X rfl Hb.o rfl (c1P a by_ o log depth (.keep b) _ ⟨_,_,rfl,rfl⟩ c) gSp ?_;refine ns ?_;refine go 3 ?_;refine a0D (c0F Sc.o rfl gFd List.mem_cons_self (List.mem_cons_of_mem _ List.mem_cons_self) rfl) ?_;refine go 4 ?_;exact fE _ trivial
theorem h0C:w0C prog 3 a0H (fun _=>True):=s1T Tin.o
theorem z0Z:w0C prog 47 e0J (fun _=>True):=s1T Tin.o
theorem y0J:w0C prog 44 d0X (fun l=>l.length=32):=o2L F.ka44
theorem tt {α:Type} {m:List α} {p:α→Prop} (h: ∀x,p x): ∀x∈m,p x:=fun x _=>h x
theorem e0I (w:Option Int):(w.map a0H).getD (.int .i64 0)= .int .i64 (w.getD 0):=by cases w<;>rfl
theorem e1Y (w:Option Ent):(w.map e0E).getD (.agg #[.int .u32 0,.int .u32 0,.bool false,.int .i64 0,.int .i64 0,.int .u32 0])= .agg (f0U (w.getD g0L)).toArray:=by cases w<;>rfl
theorem y1Z (a:Ad) (by_:Nat) (o:Own) (log:List c0U) (depth:Nat) (b to_ ep:Int) (c:log.length<1000000000):
 a0G prog 181 #[ptr a.log,.pointer (some ⟨a.core,3,none⟩),.int .u32 to_] [e0K a by_ o log depth,s0F a b ep] (z0Y a by_ o log depth (.next b) [s0F a to_ ep]):=by
 refine en func181 ntmps181 fun R w0=> ?_
 try simp only[o0F]
 refine go 2 ?_;refine bx fun d=> ?_;refine go 7 ?_;refine al fun e=> ?_;refine go 7 ?_;refine b0X rfl Hb.o rfl (c1P a by_ o log depth (.next b) _ ⟨_,_,rfl,rfl⟩ c) gSp ?_;refine ns ?_;refine go 3 ?_;refine a0D (c0F Sc.o rfl gFd List.mem_cons_self (List.mem_cons_of_mem _ List.mem_cons_self) rfl) ?_;refine go 4 ?_;exact fE _ trivial
theorem q0E (a:Ad) (by_:Nat) (o:Own) (log:List c0U) (depth:Nat) (mb:Nat) (m:List (Int×Int)) (k v:Int) (st:c0U) (c:log.length<1000000000)
 (b: ∀b1 b2 b3 b4,s0E a by_ st (clo 282 [b1,b2,b3,b4]) [e0B b1 89 (.map (some mb)),e0B b2 3 (.int .i64 k),e0B b3 3 (.int .i64 ((a0C k m).getD 0)),e0B b4 4 (.bool (a0C k m).isSome)]):
 a0G prog 248 #[ptr a.log,.map (some mb),.int .i64 k,.int .i64 v] [e0K a by_ o log depth,b0K mb a0H a0H m] (z0Y a by_ o log depth st [b0K mb a0H a0H (b0O k v m)]):=by
 refine en func248 ntmps248 fun R w0=> ?_;refine go 2 ?_;refine bx fun d=> ?_;refine bx fun e=> ?_;refine go 6 ?_;refine a0D (o0W (ek:=a0H) (ev:=a0H) c0Y.o h0C (tt fun _=>trivial) trivial Zr.o rfl rfl gFd e0I) ?_;refine go 3 ?_;refine al fun f=> ?_;refine al fun g=> ?_;refine go 8 ?_;refine b0X rfl Hb.o rfl (g1W a by_ o log depth st _ (b _ _ _ _) c) gSp ?_;refine ns ?_;refine go 3 ?_;refine a0D (c0F Sc.o rfl gFd List.mem_cons_self List.mem_cons_self rfl) ?_;refine a0D (c0F Sc.o rfl gFd List.mem_cons_self (List.mem_cons_of_mem _ List.mem_cons_self) rfl) ?_;refine go 1 ?_;refine i0O (ek:=a0H) (ev:=a0H) c0Y.o h0C (tt fun _=>trivial) trivial rfl rfl rfl gFd ?_;refine go 1 ?_;exact fE _ trivial
theorem r0A (a:Ad) (by_:Nat) (o:Own) (log:List c0U) (depth:Nat) (mb:Nat) (m:List (Int×Int)) (k:Int) (st:c0U) (d:log.length<1000000000)
 (c: ∀b1 b2 b3 b,s0E a by_ st (clo 286 [b1,b2,b3,b]) [e0B b1 89 (.map (some mb)),e0B b2 3 (.int .i64 k),e0B b3 3 (.int .i64 ((a0C k m).getD 0)),e0B b 4 (.bool (a0C k m).isSome)]):
 a0G prog 257 #[ptr a.log,.map (some mb),.int .i64 k] [e0K a by_ o log depth,b0K mb a0H a0H m] (z0Y a by_ o log depth st [b0K mb a0H a0H (b0D k m)]):=by
 refine en func257 ntmps257 fun R w0=> ?_;refine go 2 ?_;refine bx fun b=> ?_;refine bx fun e=> ?_;refine go 6 ?_;refine a0D (o0W (ek:=a0H) (ev:=a0H) c0Y.o h0C (tt fun _=>trivial) trivial Zr.o rfl rfl gFd e0I) ?_;refine go 3 ?_;refine al fun f=> ?_;refine al fun g=> ?_;refine go 8 ?_;refine b0X rfl Hb.o rfl (g1W a by_ o log depth st _ (c _ _ _ _) d) gSp ?_;refine ns ?_;refine go 3 ?_;refine a0D (c0F Sc.o rfl gFd List.mem_cons_self List.mem_cons_self rfl) ?_;refine a0D (c0F Sc.o rfl gFd List.mem_cons_self (List.mem_cons_of_mem _ List.mem_cons_self) rfl) ?_;refine q0N (ek:=a0H) (ev:=a0H) c0Y.o h0C (tt fun _=>trivial) trivial rfl rfl gFd ?_;refine go 1 ?_;exact fE _ trivial
theorem z1A (a:Ad) (by_:Nat) (o:Own) (log:List c0U) (depth:Nat) (m:List (B×Int)) (k:B) (v:Int) (d:log.length<1000000000) (c: ∀p∈m,p.1.length=32) (b:k.length=32):
 a0G prog 204 #[ptr a.log,.map (some a.ix),d0X k,.int .i64 v] [e0K a by_ o log depth,b0K a.ix d0X a0H m] (z0Y a by_ o log depth (.index k (a0C k m)) [b0K a.ix d0X a0H (b0O k v m)]):=by
 have e:(k.map a0Q).toArray.size=32:=by simp[b]
 refine en func204 ntmps204 fun R w0=> ?_
 try simp only[d0X]
 refine go 2 ?_;refine bx fun f=> ?_;refine bx fun g=> ?_;refine go 5 ?_;refine a0D (a0K Ag.o rfl (by simp[Value.cells,b]) (a0I (by simp[Value.cells,b]))) ?_;refine a0D (o0W (ek:=d0X) (ev:=a0H) (k:=k) c0Y.o y0J c b Zr.o rfl rfl gFd e0I) ?_;refine go 3 ?_;refine al fun h=> ?_;refine al fun i=> ?_;refine go 8 ?_;refine b0X rfl Hb.o rfl (g1W a by_ o log depth (.index k (a0C k m)) _ ⟨b,_,_,_,_,.inl rfl,rfl⟩ d) gSp ?_;refine ns ?_;refine go 3 ?_;refine a0D (c0F Sc.o rfl gFd List.mem_cons_self List.mem_cons_self rfl) ?_;refine a0D (e1W Ag.o rfl gFd List.mem_cons_self (List.mem_cons_of_mem _ List.mem_cons_self) (by simp[b]) (a0I (by simp[b]))) ?_;refine go 1 ?_;refine i0O (ek:=d0X) (ev:=a0H) (k:=k) c0Y.o y0J c b rfl rfl rfl gFd ?_;refine go 1 ?_;exact fE _ trivial
theorem v1D (a:Ad) (by_:Nat) (o:Own) (log:List c0U) (depth:Nat) (m:List (B×Int)) (k:B) (d:log.length<1000000000) (c: ∀p∈m,p.1.length=32) (b:k.length=32):
 a0G prog 241 #[ptr a.log,.map (some a.ix),d0X k] [e0K a by_ o log depth,b0K a.ix d0X a0H m] (z0Y a by_ o log depth (.index k (a0C k m)) [b0K a.ix d0X a0H (b0D k m)]):=by
 have e:(k.map a0Q).toArray.size=32:=by simp[b]
 refine en func241 ntmps241 fun R w0=> ?_
 try simp only[d0X]
 refine go 2 ?_;refine bx fun f=> ?_;refine bx fun g=> ?_;refine go 5 ?_;refine a0D (a0K Ag.o rfl (by simp[Value.cells,b]) (a0I (by simp[Value.cells,b]))) ?_;refine a0D (o0W (ek:=d0X) (ev:=a0H) (k:=k) c0Y.o y0J c b Zr.o rfl rfl gFd e0I) ?_;refine go 3 ?_;refine al fun h=> ?_;refine al fun i=> ?_;refine go 8 ?_;refine b0X rfl Hb.o rfl (g1W a by_ o log depth (.index k (a0C k m)) _ ⟨b,_,_,_,_,.inr rfl,rfl⟩ d) gSp ?_;refine ns ?_;refine go 3 ?_;refine a0D (c0F Sc.o rfl gFd List.mem_cons_self List.mem_cons_self rfl) ?_;refine a0D (e1W Ag.o rfl gFd List.mem_cons_self (List.mem_cons_of_mem _ List.mem_cons_self) (by simp[b]) (a0I (by simp[b]))) ?_;refine q0N (ek:=d0X) (ev:=a0H) (k:=k) c0Y.o y0J c b rfl rfl gFd ?_;refine go 1 ?_;exact fE _ trivial
theorem z1B (a:Ad) (by_:Nat) (o:Own) (log:List c0U) (depth:Nat) (m:List (Int×Ent)) (k:Int) (v:Ent) (b:log.length<1000000000):
 a0G prog 119 #[ptr a.log,.map (some a.vols),.int .u32 k,e0E v] [e0K a by_ o log depth,b0K a.vols e0J e0E m] (z0Y a by_ o log depth (.vols k (a0C k m)) [b0K a.vols e0J e0E (b0O k v m)]):=by
 refine en func119 ntmps119 fun R w0=> ?_
 try simp only[e0E]
 refine go 2 ?_;refine bx fun c=> ?_;refine bx fun d=> ?_;refine bx fun e=> ?_;refine go 6 ?_;refine a0D (o0W (ek:=e0J) (ev:=e0E) (k:=k) c0Y.o z0Z (tt fun _=>trivial) trivial Zr.o rfl rfl gFd e1Y) ?_;refine go 3 ?_;refine al fun f=> ?_;refine al fun g=> ?_;refine go 8 ?_;refine b0X rfl Hb.o rfl (g1W a by_ o log depth (.vols k (a0C k m)) _ ⟨_,_,_,_,.inl rfl,rfl⟩ b) gSp ?_;refine ns ?_;refine go 3 ?_;refine a0D (c0F Sc.o rfl gFd List.mem_cons_self List.mem_cons_self rfl) ?_;refine a0D (c0F Sc.o rfl gFd List.mem_cons_self (List.mem_cons_of_mem _ List.mem_cons_self) rfl) ?_;refine go 1 ?_;refine i0O (ek:=e0J) (ev:=e0E) (k:=k) (v:=v) c0Y.o z0Z (tt fun _=>trivial) trivial rfl rfl rfl gFd ?_;refine go 1 ?_;exact fE _ trivial
theorem v1E (a:Ad) (by_:Nat) (o:Own) (log:List c0U) (depth:Nat) (m:List (Int×Ent)) (k:Int) (b:log.length<1000000000):
 a0G prog 123 #[ptr a.log,.map (some a.vols),.int .u32 k] [e0K a by_ o log depth,b0K a.vols e0J e0E m] (z0Y a by_ o log depth (.vols k (a0C k m)) [b0K a.vols e0J e0E (b0D k m)]):=by
 refine en func123 ntmps123 fun R w0=> ?_;refine go 2 ?_;refine bx fun c=> ?_;refine bx fun d=> ?_;refine go 6 ?_;refine a0D (o0W (ek:=e0J) (ev:=e0E) (k:=k) c0Y.o z0Z (tt fun _=>trivial) trivial Zr.o rfl rfl gFd e1Y) ?_;refine go 3 ?_;refine al fun e=> ?_;refine al fun f=> ?_;refine go 8 ?_;refine b0X rfl Hb.o rfl (g1W a by_ o log depth (.vols k (a0C k m)) _ ⟨_,_,_,_,.inr rfl,rfl⟩ b) gSp ?_;refine ns ?_;refine go 3 ?_;refine a0D (c0F Sc.o rfl gFd List.mem_cons_self List.mem_cons_self rfl) ?_;refine a0D (c0F Sc.o rfl gFd List.mem_cons_self (List.mem_cons_of_mem _ List.mem_cons_self) rfl) ?_;refine q0N (ek:=e0J) (ev:=e0E) (k:=k) c0Y.o z0Z (tt fun _=>trivial) trivial rfl rfl gFd ?_;refine go 1 ?_;exact fE _ trivial
theorem z1C (a:Ad) (by_:Nat) (o:Own) (log:List c0U) (depth:Nat) (gv to_:Value) (keep:Int) (d:List Int) (gc:List (Nat×Obj)) (m:log.length<1000000000) (h:n0E gv d gc) (f:to_.oneCell'=true):
 a0G prog 260 #[ptr a.log,.pointer (some ⟨a.heap,5,none⟩),to_] [e0K a by_ o log depth,i0R a by_ gv keep,b0E (gc.map fun p=>pts p.1 p.2)] (z0Y a by_ o log depth (.gone d) [i0R a by_ to_ keep]):=by
 have e:gv.oneCell'=true:=by rcases h with ⟨_,⟨_,rfl,_⟩| ⟨_,_,_,rfl,_⟩⟩<;>rfl
 have hb: ∀b c,a0G prog 165 #[ptr a.log,.func (.func 287) #[] #[ptr b,ptr c]] [e0K a by_ o log depth,pts b (.cells #[gv] 90 (0,0)),pts c (.cells #[.pointer (some ⟨a.heap,5,none⟩)] 319 (0,0)),b0E (gc.map fun p=>pts p.1 p.2)]
  (a0T (.tuple #[]) [e0K a by_ ((.gone d,clo 287 [b,c],e0B b 90 gv::e0B c 319 (.pointer (some ⟨a.heap,5,none⟩))::gc)::o) (bk depth log (.gone d)) depth]):=by
  intro b c w F i;refine e1X a by_ o log depth (.gone d) _ [b,c] (e0B b 90 gv::e0B c 319 (.pointer (some ⟨a.heap,5,none⟩))::gc) ⟨b,c,gv,gc,rfl,rfl,h⟩ m w F ?_;simp only[List.cons_append,List.nil_append]at i;have j:Sat w ([b0E (gc.map fun p=>pts p.1 p.2),F,pts b (.cells #[gv] 90 (0,0)),pts c (.cells #[.pointer (some ⟨a.heap,5,none⟩)] 319 (0,0)),e0K a by_ o log depth]++ []):=i.perm (show b0A _ _ _ from gSp);have g:=(b0M.1 j).perm List.perm_append_comm
  try simp only[List.cons_append,List.nil_append]at g
  have k:Sat w ([pts b (.cells #[gv] 90 (0,0)),pts c (.cells #[.pointer (some ⟨a.heap,5,none⟩)] 319 (0,0))]++(F::e0K a by_ o log depth::(gc.map fun p=>pts p.1 p.2))):=g.perm (show b0A _ _ _ from gSp);have l:Sat w (((e0B b 90 gv::e0B c 319 (.pointer (some ⟨a.heap,5,none⟩))::gc).map fun p=>pts p.1 p.2)++ [F,e0K a by_ o log depth]):=by
   simp only[List.map_cons,List.cons_append];refine k.perm (List.Perm.cons _ (List.Perm.cons _ ?_));exact List.perm_append_comm (l₁:= [F,e0K a by_ o log depth])
  exact(b0M.2 l).perm (by show b0A _ [_,_,_] [];exact gSp)
 refine en func260 ntmps260 fun R w0=> ?_
 try simp only[c0R]
 refine go 2 ?_;refine bx fun n=> ?_;refine go 6 ?_;skip;refine go 1 ?_;refine al fun q=> ?_;refine(d0T Sz.o rfl rfl e (by rfl) (by rfl) ?_);refine go 6 ?_;refine b0X rfl Hb.o rfl (hb _ _) gSp ?_;refine ns ?_;refine go 3 ?_;refine a0D (c0F Sc.o rfl gFd List.mem_cons_self (List.mem_cons_of_mem _ List.mem_cons_self) rfl) ?_;refine go 2 ?_;refine(d0T Sz.o rfl rfl f (by rfl) (by rfl) ?_);refine go 1 ?_;exact fE _ trivial
theorem t0T {k:Int} (h:inR k=true): -9223372036854775808≤k∧k≤9223372036854775807:=by simpa [inR] using h
theorem e1Z (mb:Nat) (m:List (Int×Int)) (k:Int) (w:Option Int):a0G prog 283 #[.map (some mb),.int .i64 k,.int .i64 (w.getD 0),.bool w.isSome] [b0K mb a0H a0H m] (a0T (.tuple #[]) [b0K mb a0H a0H (f0R k w m)]):=by
 cases w with
 |none=>
  refine en func283 ntmps283 fun R w0=> ?_
  try simp only[Option.getD_none,Option.isSome_none]
  refine go 12 ?_;refine(q0N (ek:=a0H) (ev:=a0H) c0Y.o h0C (tt fun _=>trivial) trivial rfl rfl gFd ?_);refine go 2 ?_;exact rG
 |some v=>
  refine en func283 ntmps283 fun R w0=> ?_
  try simp only[Option.getD_some,Option.isSome_some]
  refine go 14 ?_;refine(i0O (ek:=a0H) (ev:=a0H) c0Y.o h0C (tt fun _=>trivial) trivial rfl rfl rfl gFd ?_);refine go 1 ?_;refine d0Q rfl rfl gSp
theorem f1A (mb:Nat) (m:List (B×Int)) (k:B) (w:Option Int) (b: ∀p∈m,p.1.length=32) (a:k.length=32):a0G prog 254 #[.map (some mb),d0X k,.int .i64 (w.getD 0),.bool w.isSome] [b0K mb d0X a0H m] (a0T (.tuple #[]) [b0K mb d0X a0H (f0R k w m)]):=by
 cases w with
 |none=>
  refine en func254 ntmps254 fun R w0=> ?_
  try simp only[Option.getD_none,Option.isSome_none]
  refine go 2 ?_;refine bx fun c=> ?_;refine go 13 ?_;refine a0D (a0K Ag.o rfl (by simp[d0X,Value.cells,a]) (a0I (by simp[d0X,Value.cells,a]))) ?_;refine(q0N (ek:=d0X) (ev:=a0H) c0Y.o y0J b a rfl rfl gFd ?_);refine go 2 ?_;exact rG
 |some v=>
  refine en func254 ntmps254 fun R w0=> ?_
  try simp only[Option.getD_some,Option.isSome_some]
  refine go 2 ?_;refine bx fun c=> ?_;refine go 14 ?_;refine a0D (a0K Ag.o rfl (by simp[d0X,Value.cells,a]) (a0I (by simp[d0X,Value.cells,a]))) ?_;refine go 1 ?_;refine(i0O (ek:=d0X) (ev:=a0H) c0Y.o y0J b a rfl rfl rfl gFd ?_);refine go 1 ?_;refine d0Q rfl rfl gSp
theorem f1B (mb:Nat) (m:List (Int×Ent)) (k:Int) (w:Option Ent):a0G prog 167 #[.map (some mb),.int .u32 k,e0E (w.getD g0L),.bool w.isSome] [b0K mb e0J e0E m] (a0T (.tuple #[]) [b0K mb e0J e0E (f0R k w m)]):=by
 cases w with
 |none=>
  refine en func167 ntmps167 fun R w0=> ?_
  try simp only[Option.getD_none,Option.isSome_none]
  refine go 2 ?_;refine bx fun a=> ?_;refine go 14 ?_;refine(q0N (ek:=e0J) (ev:=e0E) c0Y.o z0Z (tt fun _=>trivial) trivial rfl rfl gFd ?_);refine go 2 ?_;exact rG
 |some v=>
  refine en func167 ntmps167 fun R w0=> ?_
  try simp only[Option.getD_some,Option.isSome_some]
  refine go 2 ?_;refine bx fun a=> ?_;refine go 16 ?_;refine(i0O (ek:=e0J) (ev:=e0E) c0Y.o z0Z (tt fun _=>trivial) trivial rfl rfl rfl gFd ?_);refine go 1 ?_;refine d0Q rfl rfl gSp
abbrev cel (b:Nat) (t:TypeId) (v:Value):a0E:=pts b (.cells #[v] t (0,0))
abbrev f2E (b1 b2 b3 b4 mb:Nat) (k:Int) (w:Option Int):List a0E:= [cel b1 89 (.map (some mb)),cel b2 3 (.int .i64 k),cel b3 3 (.int .i64 (w.getD 0)),cel b4 4 (.bool w.isSome)]
abbrev f2F (b1 b2 b3 b4 mb:Nat) (k:B) (w:Option Int):List a0E:= [cel b1 208 (.map (some mb)),pts b2 (.cells (k.map a0Q).toArray 44 (0,0)),cel b3 3 (.int .i64 (w.getD 0)),cel b4 4 (.bool w.isSome)]
abbrev f2G (b1 b2 b3 b4 mb:Nat) (k:Int) (w:Option Ent):List a0E:= [cel b1 57 (.map (some mb)),cel b2 47 (.int .u32 k),pts b3 (.cells (f0U (w.getD g0L)).toArray 50 (0,0)),cel b4 4 (.bool w.isSome)]
theorem b2Y (a b c d mb:Nat) (m:List (Int×Int)) (k:Int) (w:Option Int):a0G prog 282 #[ptr a,ptr b,ptr c,ptr d] (f2E a b c d mb k w++ [b0K mb a0H a0H m]) (a0T (.tuple #[]) (f2E a b c d mb k w++ [b0K mb a0H a0H (f0R k w m)])):=by
 refine en func282 ntmps282 fun R w0=> ?_;refine cg 5 (e1Z mb m k w) ?_;refine go 1 ?_;refine d0Q rfl rfl gSp
theorem v1F (a b c d mb:Nat) (m:List (Int×Int)) (k:Int) (w:Option Int):a0G prog 286 #[ptr a,ptr b,ptr c,ptr d] (f2E a b c d mb k w++ [b0K mb a0H a0H m]) (a0T (.tuple #[]) (f2E a b c d mb k w++ [b0K mb a0H a0H (f0R k w m)])):=by
 refine en func286 ntmps286 fun R w0=> ?_;refine cg 5 (e1Z mb m k w) ?_;refine go 1 ?_;refine d0Q rfl rfl gSp
theorem u2P (a b c d mb:Nat) (m:List (B×Int)) (k:B) (w:Option Int) (f: ∀p∈m,p.1.length=32) (e:k.length=32):a0G prog 253 #[ptr a,ptr b,ptr c,ptr d] (f2F a b c d mb k w++ [b0K mb d0X a0H m]) (a0T (.tuple #[]) (f2F a b c d mb k w++ [b0K mb d0X a0H (f0R k w m)])):=by
 refine en func253 ntmps253 fun R w0=> ?_;refine go 2 ?_;refine a0D (a0K Ag.o rfl (by simp[e]) (a0I (by simp[e]))) ?_;refine cg 2 (f1A mb m k w f e) ?_;refine go 1 ?_;refine d0Q rfl rfl gSp
theorem p2I (a b c d mb:Nat) (m:List (B×Int)) (k:B) (w:Option Int) (f: ∀p∈m,p.1.length=32) (e:k.length=32):a0G prog 279 #[ptr a,ptr b,ptr c,ptr d] (f2F a b c d mb k w++ [b0K mb d0X a0H m]) (a0T (.tuple #[]) (f2F a b c d mb k w++ [b0K mb d0X a0H (f0R k w m)])):=by
 refine en func279 ntmps279 fun R w0=> ?_;refine go 2 ?_;refine a0D (a0K Ag.o rfl (by simp[e]) (a0I (by simp[e]))) ?_;refine cg 2 (f1A mb m k w f e) ?_;refine go 1 ?_;refine d0Q rfl rfl gSp
theorem u2Q (a b c d mb:Nat) (m:List (Int×Ent)) (k:Int) (w:Option Ent):a0G prog 166 #[ptr a,ptr b,ptr c,ptr d] (f2G a b c d mb k w++ [b0K mb e0J e0E m]) (a0T (.tuple #[]) (f2G a b c d mb k w++ [b0K mb e0J e0E (f0R k w m)])):=by
 refine en func166 ntmps166 fun R w0=> ?_;refine cg 5 (f1B mb m k w) ?_;refine go 1 ?_;refine d0Q rfl rfl gSp
theorem p2J (a b c d mb:Nat) (m:List (Int×Ent)) (k:Int) (w:Option Ent):a0G prog 169 #[ptr a,ptr b,ptr c,ptr d] (f2G a b c d mb k w++ [b0K mb e0J e0E m]) (a0T (.tuple #[]) (f2G a b c d mb k w++ [b0K mb e0J e0E (f0R k w m)])):=by
 refine en func169 ntmps169 fun R w0=> ?_;refine cg 5 (f1B mb m k w) ?_;refine go 1 ?_;refine d0Q rfl rfl gSp
theorem u2R (a:Ad) (by_ b c:Nat) (gv:Value) (w keep:Int):a0G prog 195 #[ptr b,ptr c] [cel b 3 (.int .i64 w),cel c 236 (.pointer (some ⟨a.heap,6,none⟩)),i0R a by_ gv keep] (a0T (.tuple #[]) [i0R a by_ gv w]):=by
 refine en func195 ntmps195 fun R w0=> ?_
 try simp only[c0R]
 refine go 6 ?_;refine d0Q rfl rfl gSp
theorem u2S (a:Ad) (b c:Nat) (w next ep:Int):a0G prog 221 #[ptr b,ptr c] [cel b 47 (.int .u32 w),cel c 256 (.pointer (some ⟨a.core,3,none⟩)),s0F a next ep] (a0T (.tuple #[]) [s0F a w ep]):=by
 refine en func221 ntmps221 fun R w0=> ?_
 try simp only[o0F]
 refine go 6 ?_;refine d0Q rfl rfl gSp
theorem u2T (a:Ad) (by_ b c:Nat) (gv x:Value) (keep:Int) (d:x.oneCell'=true):a0G prog 287 #[ptr b,ptr c] [cel b 90 x,cel c 319 (.pointer (some ⟨a.heap,5,none⟩)),i0R a by_ gv keep] (a0T (.tuple #[]) [i0R a by_ x keep]):=by
 refine en func287 ntmps287 fun R w0=> ?_
 try simp only[c0R]
 refine go 4 ?_;refine(d0T Sz.o rfl rfl d (by rfl) (by rfl) ?_);refine go 1 ?_;refine d0Q rfl rfl gSp
theorem z2T (a:Ad) (by_ c d:Nat) (gv:Value) (keep k:Int) (fr:Nat) (g:List Nat) (e:inR k=true) (b:fr≤5000) (f:g.length≤5000):a0G prog 284 #[ptr c,ptr d] ([cel c 55 (ptr a.heap),cel d 3 (.int .i64 k),i0R a by_ gv keep]++gm a.gr a.grl fr g) (a0T (.tuple #[]) ([i0R a by_ gv keep]++gm a.gr a.grl fr (mvL fr g k 1 0))):=by
 refine en func284 ntmps284 fun R w0=> ?_
 try simp only[c0R]
 refine tl 5 ?_;refine cg 6 (l1Y a.gr a.grl fr g k (t0T e) b f) ?_;refine go 1 ?_;refine d0Q rfl rfl gSp
theorem z2U (a:Ad) (by_ c d:Nat) (gv:Value) (keep k:Int) (fr:Nat) (g:List Nat) (e:inR k=true) (b:fr≤5000) (f:g.length≤5000):a0G prog 259 #[ptr c,ptr d] ([cel c 55 (ptr a.heap),cel d 3 (.int .i64 k),i0R a by_ gv keep]++gm a.gr a.grl fr g) (a0T (.tuple #[]) ([i0R a by_ gv keep]++gm a.gr a.grl fr (mvL fr g k 2 1))):=by
 refine en func259 ntmps259 fun R w0=> ?_
 try simp only[c0R]
 refine tl 5 ?_;refine cg 6 (l1Z a.gr a.grl fr g k (t0T e) b f) ?_;refine go 1 ?_;refine d0Q rfl rfl gSp
def o0M (s:St):Prop:=s.fr≤5000∧s.g.length≤5000∧(∀x∈s.g,x<3)∧ ∀p∈s.index,p.1.length=32
abbrev i0G (c:List (Nat×Obj)):List a0E:=c.map fun p=>pts p.1 p.2
abbrev TT (a:Ad) (by_:Nat) (gv:Value) (gc:List (Nat×Obj)) (s:St):List a0E:= [i0R a by_ gv s.keep,b0E (i0G gc),b0K by_ a0H a0H s.young,b0K a.refs a0H a0H s.refs,b0K a.ix d0X a0H s.index,b0K a.vols e0J e0E s.vols,s0F a s.next s.epoch,
 pts a.gr (.cells (l0V s.fr a.grl s.g).toArray 192 (0,0)),pts a.grl (.cells (s.g.map gst).toArray 3 (0,0))]
theorem u0O (fr:Nat) (l:List Nat) (x:Int) (k t:Nat):(mvL fr l x k t).length=l.length:=by unfold mvL;split<;>simp
theorem u0P {fr:Nat} {l:List Nat} {x:Int} {k t:Nat} (c:t<3) (b: ∀y∈l,y<3): ∀y∈mvL fr l x k t,y<3:=by
 intro y a;unfold mvL at a;split at a
 ·rcases List.mem_or_eq_of_mem_set a with h|rfl
  ·exact b y h
  ·exact c
 ·exact b y a
theorem v1G {K V:Type} [DecidableEq K] {k:K} {v:V} : ∀ {m:List (K×V)} {p:K×V},p∈b0O k v m→p=(k,v)∨p∈m
 | [],p,h=>by simp[b0O]at h;exact .inl h
 | (j,u)::m,p,h=>by
  unfold b0O at h;split at h
  ·rcases List.mem_cons.1 h with h|h
   ·exact .inl h
   ·exact .inr (List.mem_cons_of_mem _ h)
  ·rcases List.mem_cons.1 h with h|h
   ·exact .inr (by simp[h])
   ·rcases v1G h with h|h
    ·exact .inl h
    ·exact .inr (List.mem_cons_of_mem _ h)
theorem v1H {K V:Type} [DecidableEq K] {k:K} : ∀ {m:List (K×V)} {p:K×V},p∈b0D k m→p∈m
 | [],p,h=>by simp[b0D]at h
 | (j,u)::m,p,h=>by
  unfold b0D at h;split at h
  ·exact List.mem_cons_of_mem _ h
  ·rcases List.mem_cons.1 h with h|h
   ·simp[h]
   ·exact List.mem_cons_of_mem _ (v1H h)
theorem p2K {a:Ad} {by_:Nat} {st:c0U} {v:Value} {c:List (Nat×Obj)} (h:s0E a by_ st v c) {s:St} (i:o0M s):o0M (o0Q st s):=by
 obtain⟨e,f,g,d⟩:=i;cases st with
 |give k=>exact⟨e,by simpa [o0Q,u0O] using f,u0P (by omega) g,d⟩
 |back k=>exact⟨e,by simpa [o0Q,u0O] using f,u0P (by omega) g,d⟩
 |index k w=>
  refine⟨e,f,g,fun p b=> ?_⟩;simp only[o0Q,Sb.f0R]at b;split at b
  ·rcases v1G b with rfl|b
   ·exact h.1
   ·exact d p b
  ·exact d p (v1H b)
 |_=>exact⟨e,f,g,d⟩
theorem p2L (a:Ad) (by_:Nat) (gv:Value) (gc:List (Nat×Obj)) (s:St) (st:c0U) (v:Value) (c:List (Nat×Obj)) (n:s0E a by_ st v c) (m:n0E gv s.gone gc) (l:o0M s):
 ∃f bb,v=clo f bb∧f0H prog f=true∧a0G prog f (bb.map ptr).toArray (b0E (i0G c)::TT a by_ gv gc s)
  (b0P (fun x:Value×List (Nat×Obj)=>n0E x.1 (o0Q st s).gone x.2∧o0M (o0Q st s)) (fun _=> .tuple #[]) (fun x=>TT a by_ x.1 x.2 (o0Q st s))):=by
 have b:=p2K n l;cases st with
 |give k=>
  obtain⟨q,d,e,rfl,rfl⟩:=n;refine⟨_,[d,e],rfl,Hb.o,g0F (gv,gc) ⟨m,b⟩ rfl rfl (k0N ?_)⟩;exact j0J (z2T a by_ d e gv s.keep k s.fr s.g q l.1 l.2.1) gSp gSp
 |back k=>
  obtain⟨q,d,e,rfl,rfl⟩:=n;refine⟨_,[d,e],rfl,Hb.o,g0F (gv,gc) ⟨m,b⟩ rfl rfl (k0N ?_)⟩;exact j0J (z2U a by_ d e gv s.keep k s.fr s.g q l.1 l.2.1) gSp gSp
 |keep w=>
  obtain⟨d,e,rfl,rfl⟩:=n;refine⟨_,[d,e],rfl,Hb.o,g0F (gv,gc) ⟨m,b⟩ rfl rfl (k0N ?_)⟩;exact j0J (u2R a by_ d e gv w s.keep) gSp gSp
 |next w=>
  obtain⟨d,e,rfl,rfl⟩:=n;refine⟨_,[d,e],rfl,Hb.o,g0F (gv,gc) ⟨m,b⟩ rfl rfl (k0N ?_)⟩;exact j0J (u2S a d e w s.next s.epoch) gSp gSp
 |gone w=>
  obtain⟨d,e,x,i,rfl,rfl,y⟩:=n;have t:x.oneCell'=true:=by rcases y with ⟨_,⟨_,rfl,_⟩| ⟨_,_,_,rfl,_⟩⟩<;>rfl
  refine⟨_,[d,e],rfl,Hb.o,g0F (x,i) ⟨y,b⟩ rfl rfl (i1R (Pre:=cel d 90 x::cel e 319 (.pointer (some ⟨a.heap,5,none⟩))::b0E (i0G i)::TT a by_ gv gc s) (fun w F h=> ?_) ?_)⟩
  ·have z:Sat w (b0E (i0G (e0B d 90 x::e0B e 319 (.pointer (some ⟨a.heap,5,none⟩))::i))::(TT a by_ gv gc s++F)):=h;have A:=b0M.1 z;have r:Sat w ([cel d 90 x,cel e 319 (.pointer (some ⟨a.heap,5,none⟩))]++(i0G i++(TT a by_ gv gc s++F))):=A;have u:=r.perm List.perm_append_comm;rw[List.append_assoc]at u;have B:=(b0M.2 u).perm (List.perm_append_comm (l₁:=b0E (i0G i)::(TT a by_ gv gc s++F)) (l₂:= [cel d 90 x,cel e 319 (.pointer (some ⟨a.heap,5,none⟩))]));exact B
  ·exact j0J (u2T a by_ d e gv x s.keep t) gSp gSp
 |refs k w=>
  obtain⟨d,e,i,j,p,rfl⟩:=n;rcases p with rfl|rfl
  ·refine⟨_,[d,e,i,j],rfl,Hb.o,g0F (gv,gc) ⟨m,b⟩ rfl rfl (k0N ?_)⟩;exact j0J (b2Y d e i j a.refs s.refs k w) gSp gSp
  ·refine⟨_,[d,e,i,j],rfl,Hb.o,g0F (gv,gc) ⟨m,b⟩ rfl rfl (k0N ?_)⟩;exact j0J (v1F d e i j a.refs s.refs k w) gSp gSp
 |young k w=>
  obtain⟨d,e,i,j,p,rfl⟩:=n;rcases p with rfl|rfl
  ·refine⟨_,[d,e,i,j],rfl,Hb.o,g0F (gv,gc) ⟨m,b⟩ rfl rfl (k0N ?_)⟩;exact j0J (b2Y d e i j by_ s.young k w) gSp gSp
  ·refine⟨_,[d,e,i,j],rfl,Hb.o,g0F (gv,gc) ⟨m,b⟩ rfl rfl (k0N ?_)⟩;exact j0J (v1F d e i j by_ s.young k w) gSp gSp
 |index k w=>
  obtain⟨q,d,e,i,j,p,rfl⟩:=n;rcases p with rfl|rfl
  ·refine⟨_,[d,e,i,j],rfl,Hb.o,g0F (gv,gc) ⟨m,b⟩ rfl rfl (k0N ?_)⟩;exact j0J (u2P d e i j a.ix s.index k w l.2.2.2 q) gSp gSp
  ·refine⟨_,[d,e,i,j],rfl,Hb.o,g0F (gv,gc) ⟨m,b⟩ rfl rfl (k0N ?_)⟩;exact j0J (p2I d e i j a.ix s.index k w l.2.2.2 q) gSp gSp
 |vols k w=>
  obtain⟨d,e,i,j,p,rfl⟩:=n;rcases p with rfl|rfl
  ·refine⟨_,[d,e,i,j],rfl,Hb.o,g0F (gv,gc) ⟨m,b⟩ rfl rfl (k0N ?_)⟩;exact j0J (u2Q d e i j a.vols s.vols k w) gSp gSp
  ·refine⟨_,[d,e,i,j],rfl,Hb.o,g0F (gv,gc) ⟨m,b⟩ rfl rfl (k0N ?_)⟩;exact j0J (p2J d e i j a.vols s.vols k w) gSp gSp
theorem f2H {a:Ad} {by_:Nat} {o:Own} {log:List c0U} {vals:List Value} {n:Nat} (h:p0O a by_ o log vals) (m:log.length=n+1):
 ∃(b:List Value) (e:c0U×Value×List (Nat×Obj)) (o':Own),vals=b++ [e.2.1]∧b.length=n∧o.Perm (e::o')∧s0E a by_ e.1 e.2.1 e.2.2∧log.drop n= [e.1]∧p0O a by_ o' (log.take n) b:=by
 obtain⟨j,live,rest,p,rfl,rfl,g⟩:=h;have c:live.length=n+1:=by simpa using m
 obtain⟨f,e,rfl⟩: ∃f e,live=f++ [e]:=⟨live.dropLast,live.getLast (by intro h;simp[h]at c),(List.dropLast_concat_getLast _).symm⟩;have d:f.length=n:=by simpa using c
 refine⟨f.map (·.2.1),e,f++rest,by simp,by simpa using d,?_,g e (by simp),?_,?_⟩
 ·refine p.trans ?_;rw[List.append_assoc];exact List.perm_middle
 ·simp[←d]
 ·refine⟨by simp at j ⊢;omega,f,rest,List.Perm.refl _,?_,rfl,fun i k=>g i (by simp[k])⟩;rw[List.map_append,←d,List.take_left' (by simp)]
theorem u2U {o o':Own} {e:c0U×Value×List (Nat×Obj)} {L M:List a0E} (f:o.Perm (e::o')) (hL:Fnd L (b0E (Own.cells o)) M) (w:World) (h:Sat w L):Sat w (b0E (i0G e.2.2)::b0E (Own.cells o')::M):=by
 have a:=b0M.1 (hL.sat h);have b:(Own.cells o).Perm (i0G e.2.2++Own.cells o'):=by
  have:=(f.flatMap_right (fun x=>x.2.2)).map (fun p:Nat×Obj=>pts p.1 p.2);simpa [Own.cells,i0G] using this
 have c:Sat w (i0G e.2.2++(Own.cells o'++M)):=a.perm ((b.append_right M).trans (by rw[List.append_assoc]));have d:Sat w (Own.cells o'++(b0E (i0G e.2.2)::M)):=(b0M.2 c).perm List.perm_middle.symm;exact(b0M.2 d).perm (List.Perm.swap _ _ _)
theorem f1C (s:St): ∀l,(e0O s l).log=s.log∧(e0O s l).depth=s.depth
 | []=>⟨rfl,rfl⟩
 |st::l=>by
  have:=f1C s l;cases st<;>exact this
theorem k2F {l:List c0U} {k n:Nat} {e:c0U} (d:k=n+1) (a:(l.take k).drop n= [e]):l.drop n=e::l.drop k:=by
 subst d;have b:(l.take (n+1))++l.drop (n+1)=l:=List.take_append_drop _ _;have c:n≤(l.take (n+1)).length:=by
  rcases Nat.lt_or_ge (l.take (n+1)).length n with h|h
  ·rw[List.drop_eq_nil_of_le (by omega)]at a;cases a
  ·exact h
 conv=>lhs;rw[←b]
 rw[List.drop_append_of_le_length c,a];rfl
theorem u2V (a:Ad) (by_:Nat) (g:Value) (d:List (Nat×Obj)) (O:Own) (s:St) (i0H:Nat) (D:n0E g s.gone d) (z:o0M s):
 a0G prog 148 #[ptr a.log,.int .i64 i0H] (e0K a by_ O s.log s.depth::TT a by_ g d s)
  (b0P (fun x:Value×List (Nat×Obj)×Own=>n0E x.1 (d0M i0H s).gone x.2.1∧o0M (d0M i0H s)) (fun _=> .tuple #[]) (fun x=>e0K a by_ x.2.2 (d0M i0H s).log (d0M i0H s).depth::TT a by_ x.1 x.2.1 (d0M i0H s))):=by
 refine en func148 ntmps148 fun R w0=> ?_;refine go 1 ?_;have N:s.log.length≤s.log.length∧(i0H≤s.log.length∨s.log.length=s.log.length)∧n0E g (e0O s (s.log.drop s.log.length)).gone d∧o0M (e0O s (s.log.drop s.log.length)):=by rw[List.drop_length];exact⟨Nat.le_refl _,.inr rfl,D,z⟩
 refine k1U (L':=e0K a by_ O (s.log.take s.log.length) s.depth::(TT a by_ g d (e0O s (s.log.drop s.log.length))++ [R])) (by rw[List.take_length,List.drop_length];rfl) ?_;simp only[TT,List.cons_append,List.nil_append];refine a0V (X:= {x:Nat×Value×List (Nat×Obj)×Own // x.1≤s.log.length∧(i0H≤x.1∨x.1=s.log.length)∧n0E x.2.1 (e0O s (s.log.drop x.1)).gone x.2.2.1∧o0M (e0O s (s.log.drop x.1))}) (fun _=> [(0,ptr a.log),(1,.int .i64 i0H)]) (fun x=>e0K a by_ x.1.2.2.2 (s.log.take x.1.1) s.depth::(TT a by_ x.1.2.1 x.1.2.2.1 (e0O s (s.log.drop x.1.1))++ [R])) (fun x=>x.1.1) ⟨(s.log.length,g,d,O),N⟩ gSu gSp ?_;rintro⟨⟨k,gv,gc,o⟩,hk,hmk,hg,hok⟩ m0 hm0
 try simp only at hm0
 try dsimp only
 dsimp only at hk hmk hg hok;simp only[TT,List.cons_append,List.nil_append];refine y0I gFd fun v vals j w U=> ?_;have y:=j.len;rw[List.length_take,Nat.min_eq_left hk]at y;refine go 7 ?_;refine a0D (i0N Tsl.o rfl gFd) ?_;refine go 4 ?_;refine a0O rfl (fun i=> ?_) (fun i=> ?_)
 ·have F:i0H<k:=by have:=of_decide_eq_true i;omega
  obtain⟨n,rfl⟩: ∃n,k=n+1:=⟨k-1,by omega⟩;obtain⟨b,e,o',rfl,t,r,H,C,m⟩:=f2H (n:=n) j (by rw[List.length_take];omega);obtain⟨f,Q,u,p,q⟩:=p2L a by_ gv gc (e0O s (s.log.drop (n+1))) e.1 e.2.1 e.2.2 H hg hok;have c:=k2F (n:=n) (l:=s.log) rfl C;have I:(s.log.take (n+1)).take n=s.log.take n:=by rw[List.take_take,Nat.min_eq_left (by omega)]
  rw[I]at m;refine i0T gFd (by omega) fun bl cap M P=> ?_;subst M;have T:(b++ [e.2.1]).length=n+1:=by simp[t]
  have S:n+1≤1000000000:=by have:=j.1;rw[List.length_take]at this;omega
  have E:0+((((b++ [e.2.1]).length:Nat):Int)-1).toNat*1=b.length:=by omega
  refine go 9 ?_;refine a0D (i0N Tsl.o rfl gFd) ?_;refine go 12 ?_;refine a0D (a0X Sc.o rfl gFd (v:= .func (.func f) #[] (Q.map ptr).toArray) (by rw[e0F,E,List.getElem?_append_right (Nat.le_refl _)];simp[u])) ?_;refine go 11 ?_;refine a0D (i1Q Tsl.o rfl rfl (by omega)) ?_;refine go 5 ?_;refine i2O (k:=n) gFd (by omega) ?_;rw[show(b++ [e.2.1]).take (n*1)=b by rw[Nat.mul_one,←t,List.take_left]];refine b0U (u2U r gFd) ?_;refine go 2 ?_;refine d0Z rfl p rfl (q) gSp ?_;rintro⟨gv',gc'⟩ hx;refine ns ?_;refine go 1 ?_;have J:((((b++ [e.2.1]).length:Nat):Int)-1).toNat=n:=by omega
  have K:o0Q e.1 (e0O s (s.log.drop (n+1)))=e0O s (s.log.drop n):=by rw[c];rfl
  rw[J,K];refine b0F (L':=_) (q0D (o:=o') (vals:=b) m w (by rw[t];exact gSp)) ?_;exact rd idh (⟨(n,gv',gc',o'),by omega,.inl (by omega),by rw[c];exact hx.1,by rw[c];exact hx.2⟩)
 ·have F: ¬i0H<k:=by have:=of_decide_eq_false i;omega
  have G:(d0M i0H s).log=s.log.take k:=by
   show s.log.take i0H=_;rcases hmk with h|h
   ·rw[show i0H=k by omega]
   ·rw[h,List.take_of_length_le (by omega),List.take_length]
  have B:s.log.drop i0H=s.log.drop k:=by
   rcases hmk with h|h
   ·rw[show i0H=k by omega]
   ·rw[h,List.drop_eq_nil_of_le (by omega),List.drop_length]
  have A:d0M i0H s= {e0O s (s.log.drop k)with log:=s.log.take k} :=by
   show {e0O s (s.log.drop i0H)with log:=s.log.take i0H} =_;rw[B,show s.log.take i0H=s.log.take k from G]
  refine go 1 ?_;refine b0F (L':=_) (q0D j w gSp) (a2S (gv,gc,o) (by rw[A];exact⟨hg,hok⟩) rfl rfl (by rw[A,show({e0O s (s.log.drop k)with log:=s.log.take k} :St).depth=s.depth from(f1C s _).2];exact gSp))
end Go.Proofs.Q

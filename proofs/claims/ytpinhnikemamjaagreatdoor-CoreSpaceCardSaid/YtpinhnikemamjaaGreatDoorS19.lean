/- Part of the proof; no statement of its own. -/
import Derived.Test.YtpinhnikemamjaaGreatDoorS08
import Derived.Test.YtpinhnikemamjaaGreatDoorS18
import Derived.Test.YtpinhnikemamjaaGreatDoorS07
set_option linter.all false
set_option maxRecDepth 4000
set_option maxHeartbeats 4000000
attribute [local irreducible] Go.Sl.a0P Go.Sl.OW Go.Sl.CW Go.Sl.OS Go.Sl.OM Go.Sl.OMf Go.Sl.KM
namespace Go.Proofs.Q
open Go.Sl Go.Sb Tryz
structure Ad where
 disk:Nat
 vd:Value
 log:Nat
 gr:Nat
 grl:Nat
 refs:Nat
 heap:Nat
 st:Nat
 ix:Nat
 maps:Nat
 core:Nat
 vols:Nat
abbrev ptr (b:Nat):Value:= .pointer (some ⟨b,0,none⟩)
abbrev e0B (b:Nat) (t:TypeId) (v:Value):Nat×Obj:=(b,.cells #[v] t (0,0))
def f0U (x:Ent):List Value:= [.int .u32 x.id,.int .u32 x.parent,.bool x.only,.int .i64 x.size,.int .i64 x.root,.int .u32 x.born]
def d0X (s:B):Value:= .agg (s.map a0Q).toArray
def e0E (x:Ent):Value:= .agg (f0U x).toArray
abbrev clo (f:FuncId) (bs:List Nat):Value:= .func (.func f) #[] (bs.map ptr).toArray
def a0H (x:Int):Value:= .int .i64 x
def e0J (x:Int):Value:= .int .u32 x
def n0E (x:Value) (w:List Int) (c:List (Nat×Obj)):Prop:=(∀k∈w,inR k=true)∧(w= []∧x= .slice none 0 0∧c= []∨
 ∃(g cap:Nat) (cur:List Value),x= .slice (some ⟨g,0,none⟩) w.length cap∧w.length≤cap∧cap≤maxLen∧cur.length=cap∧cur.take w.length=w.map a0H∧c= [(g,.cells cur.toArray 3 (0,0))])
def s0E (a:Ad) (by_:Nat):c0U→Value→List (Nat×Obj)→Prop
 | .give k,v,c=>inR k=true∧ ∃b1 b2,v=clo 284 [b1,b2]∧c= [e0B b1 55 (ptr a.heap),e0B b2 3 (.int .i64 k)]
 | .back k,v,c=>inR k=true∧ ∃b1 b2,v=clo 259 [b1,b2]∧c= [e0B b1 55 (ptr a.heap),e0B b2 3 (.int .i64 k)]
 | .keep w,v,c=> ∃b1 b2,v=clo 195 [b1,b2]∧c= [e0B b1 3 (.int .i64 w),e0B b2 236 (.pointer (some ⟨a.heap,6,none⟩))]
 | .next w,v,c=> ∃b1 b2,v=clo 221 [b1,b2]∧c= [e0B b1 47 (.int .u32 w),e0B b2 256 (.pointer (some ⟨a.core,3,none⟩))]
 | .gone w,v,c=> ∃b1 b2 x b3,v=clo 287 [b1,b2]∧c=e0B b1 90 x::e0B b2 319 (.pointer (some ⟨a.heap,5,none⟩))::b3∧n0E x w b3
 | .refs k w,v,c=> ∃b1 b2 b3 b4,(v=clo 282 [b1,b2,b3,b4]∨v=clo 286 [b1,b2,b3,b4])∧
  c= [e0B b1 89 (.map (some a.refs)),e0B b2 3 (.int .i64 k),e0B b3 3 (.int .i64 (w.getD 0)),e0B b4 4 (.bool w.isSome)]
 | .young k w,v,c=> ∃b1 b2 b3 b4,(v=clo 282 [b1,b2,b3,b4]∨v=clo 286 [b1,b2,b3,b4])∧
  c= [e0B b1 89 (.map (some by_)),e0B b2 3 (.int .i64 k),e0B b3 3 (.int .i64 (w.getD 0)),e0B b4 4 (.bool w.isSome)]
 | .index k w,v,c=>k.length=32∧ ∃b1 b2 b3 b4,(v=clo 253 [b1,b2,b3,b4]∨v=clo 279 [b1,b2,b3,b4])∧
  c= [e0B b1 208 (.map (some a.ix)),(b2,.cells (k.map a0Q).toArray 44 (0,0)),e0B b3 3 (.int .i64 (w.getD 0)),e0B b4 4 (.bool w.isSome)]
 | .vols k w,v,c=> ∃b1 b2 b3 b4,(v=clo 166 [b1,b2,b3,b4]∨v=clo 169 [b1,b2,b3,b4])∧
  c= [e0B b1 57 (.map (some a.vols)),e0B b2 47 (.int .u32 k),(b3,.cells (f0U (w.getD g0L)).toArray 50 (0,0)),e0B b4 4 (.bool w.isSome)]
abbrev Own:=List (c0U×Value×List (Nat×Obj))
def Own.cells (o:Own):List a0E:=(o.flatMap fun e=>e.2.2).map fun p=>pts p.1 p.2
def p0O (a:Ad) (by_:Nat) (o:Own) (log:List c0U) (vals:List Value):Prop:=
 log.length≤1000000000∧ ∃live rest:Own,o.Perm (live++rest)∧live.map (·.1)=log∧live.map (·.2.1)=vals∧ ∀e∈live,s0E a by_ e.1 e.2.1 e.2.2
theorem p0O.len {a:Ad} {by_:Nat} {o:Own} {log:List c0U} {vals:List Value} (h:p0O a by_ o log vals):log.length=vals.length:=by
 obtain⟨_,live,rest,_,rfl,rfl,_⟩:=h;simp
def p2H (a:Ad) (by_:Nat) (o:Own) (log:List c0U) (depth:Nat) (v:Value) (vals:List Value):List a0E:=
 [pts a.log (.cells #[v,.int .i64 depth] 154 (0,0)),b0I 1 1 v vals.length vals,b0E (Own.cells o),m0X (p0O a by_ o log vals∧depth≤1000000000)]
def e0K (a:Ad) (by_:Nat) (o:Own) (log:List c0U) (depth:Nat):a0E:=ex fun x:Value×List Value=>b0E (p2H a by_ o log depth x.1 x.2)
section
attribute [local semireducible] Sl.a0P Sl.OW Sl.CW Sl.OS Sl.OM Sl.OMf Sl.KM
section
variable {c:Cx} {ops:Array Oper} {Q:Exit→Act→World→Prop} {rest:List Oper} {env:List (Nat×Value)} {L M:List a0E} {y:Code} {a:Ad} {by_:Nat} {o:Own} {log:List c0U} {depth:Nat}
theorem y0I (hL:Fnd L (e0K a by_ o log depth) M) (h: ∀v vals,p0O a by_ o log vals→depth≤1000000000→v.oneCell'=true→CW c y Q env (pts a.log (.cells #[v,.int .i64 depth] 154 (0,0))::b0I 1 1 v vals.length vals::b0E (Own.cells o)::M)):CW c y Q env L:=by
 refine v0M hL fun x=> ?_;simp only[p2H,List.cons_append,List.nil_append];intro ac w hh;have h1:=hh.sat;have h2:Sat w (m0X (p0O a by_ o log x.2∧depth≤1000000000)::pts a.log (.cells #[x.1,.int .i64 depth] 154 (0,0))::b0I 1 1 x.1 x.2.length x.2::b0E (Own.cells o)::M):=
  h1.perm (Fnd.there (Fnd.there (Fnd.there Fnd.here)))
 obtain⟨⟨h3,h4⟩,h5⟩:=u0D.1 h2;exact h x.1 x.2 h3 h4 (n1O (h5.perm (Fnd.there Fnd.here))) ac w ⟨hh.size,hh.slots,hh.defers,h5,hh.like⟩
theorem q0D {v:Value} {vals:List Value} (hok:p0O a by_ o log vals) (hd:depth≤1000000000)
 (hL:b0A L [pts a.log (.cells #[v,.int .i64 depth] 154 (0,0)),b0I 1 1 v vals.length vals,b0E (Own.cells o)] M) (w:World) (h:Sat w L):Sat w (e0K a by_ o log depth::M):=by
 refine g0K.2 ⟨(v,vals),b0M.2 ?_⟩;have h1:=n0V (p:=p0O a by_ o log vals∧depth≤1000000000) ⟨hok,hd⟩ w (h.perm hL);exact h1.perm (List.perm_middle (l₁:= [pts a.log (.cells #[v,.int .i64 depth] 154 (0,0)),b0I 1 1 v vals.length vals,b0E (Own.cells o)])).symm
theorem u2O {st:c0U} {v:Value} {cells:List (Nat×Obj)} {w:World} (h:Sat w (b0E (Own.cells o)::b0E (cells.map fun p=>pts p.1 p.2)::M)):Sat w (b0E (Own.cells ((st,v,cells)::o))::M):=by
 have h1:Sat w (b0E (cells.map fun p=>pts p.1 p.2)::b0E (Own.cells o)::M):=h.perm (List.Perm.swap _ _ _);have h2:=b0M.1 h1;have h3:Sat w (b0E (Own.cells o)::((cells.map fun p=>pts p.1 p.2)++M)):=h2.perm List.perm_middle;have h4:=b0M.1 h3;refine b0M.2 ?_;have e:Own.cells ((st,v,cells)::o)=(cells.map fun p=>pts p.1 p.2)++Own.cells o:=by simp[Own.cells]
 rw[e,List.append_assoc];exact h4.perm ((List.append_assoc _ _ _).symm▸(List.perm_append_comm.append_right M).trans (by rw[List.append_assoc]))
theorem v1B {w:World} {e:c0U×Value×List (Nat×Obj)} {b:Nat} {ob:Obj} (he:e∈o) (hb:(b,ob)∈e.2.2) (h:Sat w (e0K a by_ o log depth::M)):w.heap[b]? =some ob:=by
 obtain⟨x,h1⟩:=g0K.1 h;have h2:=b0M.1 h1;simp only[p2H,List.cons_append,List.nil_append]at h2;have h3:Sat w (b0E (Own.cells o)::pts a.log (.cells #[x.1,.int .i64 depth] 154 (0,0))::b0I 1 1 x.1 x.2.length x.2::m0X (p0O a by_ o log x.2∧depth≤1000000000)::M):=
  h2.perm (Fnd.there (Fnd.there Fnd.here))
 have h4:=b0M.1 h3;have hm:pts b ob∈Own.cells o:=List.mem_map.2 ⟨(b,ob),List.mem_flatMap.2 ⟨e,he,hb⟩,rfl⟩;obtain⟨l1,l2,hl⟩:=List.append_of_mem hm;rw[hl,List.append_assoc,List.cons_append]at h4;exact(h4.perm List.perm_middle).pts
theorem c0F {dd:Option Tmp} {ty:TypeId} {pos:String} {af:Array Edge} {g:Option (Nat×Bool)} {x:Operand} {t et:TypeId} {b k:Nat} {cs:List Value} {e:c0U×Value×List (Nat×Obj)} {v:Value} (ht:f0Q c.P t=true) (hx:evo env x=some (.pointer (some ⟨b,k,none⟩)))
 (hL:Fnd L (e0K a by_ o log depth) M) (he:e∈o) (hb:(b,.cells cs.toArray et (0,0))∈e.2.2) (hv:nth cs k=some v):Sl.a0P c ⟨dd,.load t x,ty,pos,af,g⟩ env L v:=
 w0Z ht hx hL fun w L' hs=>by
  have:=v1B he hb hs;rw[e0F]at hv;simp[World.cell?,this,hv]
theorem e1W {dd:Option Tmp} {ty:TypeId} {pos:String} {af:Array Edge} {g:Option (Nat×Bool)} {x:Operand} {t et:TypeId} {b n:Nat} {cs:Array Value} {e:c0U×Value×List (Nat×Obj)} {v:Array Value} (ht:o0N c.P t n=true) (hx:evo env x=some (.pointer (some ⟨b,0,none⟩)))
 (hL:Fnd L (e0K a by_ o log depth) M) (he:e∈o) (hb:(b,.cells cs et (0,0))∈e.2.2) (hn:0+n≤cs.size) (hv:cs.extract 0 (0+n)=v):Sl.a0P c ⟨dd,.load t x,ty,pos,af,g⟩ env L (.agg v):=by
 intro ac w hh;have h1:=v1B he hb (hL.sat hh.sat);subst hv;simp[execOp,hh.eval hx,Instr.loadAt,Instr.sureAddr,loadVar,j0A ht,j0H ht,g0U h1 hn]
end
theorem f2C {a:Ad} {by_:Nat} {o:Own} {log:List c0U} {vals:List Value} {st:c0U} {v:Value} {cells:List (Nat×Obj)} (h:p0O a by_ o log vals) (hs:s0E a by_ st v cells) (hn:log.length<1000000000):
 p0O a by_ ((st,v,cells)::o) (log++ [st]) (vals++ [v]):=by
 obtain⟨h1,live,rest,hp,rfl,rfl,hl⟩:=h;refine⟨by simp at hn ⊢;omega,live++ [(st,v,cells)],rest,?_,by simp,by simp,?_⟩
 ·rw[List.append_assoc];exact(List.Perm.cons _ hp).trans List.perm_middle.symm
 ·intro e he;rcases List.mem_append.1 he with he|he
  ·exact hl e he
  ·simp at he;subst he;exact hs
theorem f2D {a:Ad} {by_:Nat} {o:Own} {log:List c0U} {vals:List Value} {e:c0U×Value×List (Nat×Obj)} (h:p0O a by_ o log vals):p0O a by_ (e::o) log vals:=
 by
  obtain⟨h1,live,rest,hp,h2,h3,hl⟩:=h;exact⟨h1,live,e::rest,(List.Perm.cons _ hp).trans List.perm_middle.symm,h2,h3,hl⟩
theorem v1C {a:Ad} {by_:Nat} {o:Own} {log:List c0U} {depth:Nat} {M:List a0E} {w:World} {v fv:Value} {vals:List Value} {st:c0U} {cells:List (Nat×Obj)} {F:List a0E} (hok:p0O a by_ ((st,fv,cells)::o) log vals) (hd:depth≤1000000000)
 (hL:b0A M [b0E (Own.cells o),b0E (cells.map fun p=>pts p.1 p.2),pts a.log (.cells #[v,.int .i64 depth] 154 (0,0)),b0I 1 1 v vals.length vals] F) (h:Sat w M):Sat w (e0K a by_ ((st,fv,cells)::o) log depth::F):=
 q0D hok hd (b0A.cons (Fnd.there Fnd.here) (b0A.cons (Fnd.there Fnd.here) (b0A.cons Fnd.here b0A.nil))) w (u2O (h.perm hL))
attribute [local irreducible] Sl.a0P Sl.OW Sl.CW Sl.OS Sl.OM Sl.OMf Sl.KM
theorem e1X (a:Ad) (by_:Nat) (o:Own) (log:List c0U) (depth:Nat) (st:c0U) (f:FuncId) (bb:List Nat) (cells:List (Nat×Obj)) (hs:s0E a by_ st (clo f bb) cells) (hn:log.length<1000000000):
 a0G prog 165 #[ptr a.log,clo f bb] [e0K a by_ o log depth,b0E (cells.map fun p=>pts p.1 p.2)] (a0T (.tuple #[]) [e0K a by_ ((st,clo f bb,cells)::o) (bk depth log st) depth]):=by
 refine en func165 ntmps165 fun R w0=> ?_;refine y0I gFd fun v0 vals hok hdp hv1=> ?_;have hlen:=hok.len;refine go 9 ?_;refine a0O rfl (fun hb8=> ?_) (fun hb8=> ?_)
 ·have hpos:0<depth:=by have:=of_decide_eq_true hb8;omega
  refine go 7 ?_;refine bl fun b15=> ?_;refine(d0E Tsl.o Ttb.o Zr.o rfl rfl rfl gFd (f0I Tsl.o (by simp;rfl) (by simp) (by simp[Value.oneCell'])) (by simp only[maxLen];omega) (by omega) (fun v16 hv16=> ?_));refine go 4 ?_;have e:bk depth log st=log++ [st]:=if_pos hpos;rw[e];exact b0F (fun w h=>v1C (vals:=vals++ [clo f bb]) (f2C hok hs hn) hdp (by rw[List.length_append];exact gSp) h) (d0Q rfl rfl gSp)
 ·have hpos: ¬0<depth:=by have:=of_decide_eq_false hb8;omega
  refine go 1 ?_;have e:bk depth log st=log:=if_neg hpos;rw[e];exact b0F (fun w h=>v1C (vals:=vals) (f2D hok) hdp gSp h) (d0Q rfl rfl gSp)
end
theorem h1V {P:Program} {f:FuncId} {args:Array Value} {A:a0E} {N:List a0E} {Post:Ending→List a0E→Prop} (h:a0G P f args [A,b0E N] Post):a0G P f args (A::N) Post:=by
 intro w F hs;refine h w F ?_;have h1:Sat w (N++(F:: [A])):=hs.perm (by
  show List.Perm (A::(N++ [F])) _;exact((List.perm_append_singleton A (N++ [F])).symm).trans (by simp))
 have h2:=b0M.2 h1;exact h2.perm (by show List.Perm [b0E N,F,A] [A,b0E N,F];exact(List.perm_append_comm (l₁:= [b0E N,F]) (l₂:= [A])))
theorem c1P (a:Ad) (by_:Nat) (o:Own) (log:List c0U) (depth:Nat) (st:c0U) (f:FuncId) {b1 b2:Nat} {o1 o2:Obj} {x y:Nat} (hs:s0E a by_ st (clo f [b1,b2]) [(x,o1),(y,o2)]) (hn:log.length<1000000000):
 a0G prog 165 #[ptr a.log,.func (.func f) #[] #[ptr b1,ptr b2]] [e0K a by_ o log depth,pts x o1,pts y o2] (a0T (.tuple #[]) [e0K a by_ ((st,clo f [b1,b2],[(x,o1),(y,o2)])::o) (bk depth log st) depth]):=
 h1V (e1X a by_ o log depth st f [b1,b2] [(x,o1),(y,o2)] hs hn)
theorem g1W (a:Ad) (by_:Nat) (o:Own) (log:List c0U) (depth:Nat) (st:c0U) (f:FuncId) {b1 b2 b3 b4:Nat} {o1 o2 o3 o4:Obj} {x y z u:Nat} (hs:s0E a by_ st (clo f [b1,b2,b3,b4]) [(x,o1),(y,o2),(z,o3),(u,o4)]) (hn:log.length<1000000000):
 a0G prog 165 #[ptr a.log,.func (.func f) #[] #[ptr b1,ptr b2,ptr b3,ptr b4]] [e0K a by_ o log depth,pts x o1,pts y o2,pts z o3,pts u o4] (a0T (.tuple #[]) [e0K a by_ ((st,clo f [b1,b2,b3,b4],[(x,o1),(y,o2),(z,o3),(u,o4)])::o) (bk depth log st) depth]):=
 h1V (e1X a by_ o log depth st f [b1,b2,b3,b4] [(x,o1),(y,o2),(z,o3),(u,o4)] hs hn)
def c0R (a:Ad) (by_:Nat) (gv:Value) (keep:Int):List Value:= [ptr a.disk,ptr a.log,ptr a.gr,.map (some a.refs),.map (some by_),gv,.int .i64 keep]
abbrev i0R (a:Ad) (by_:Nat) (gv:Value) (keep:Int):a0E:=pts a.heap (.cells (c0R a by_ gv keep).toArray 92 (0,0))
def o0F (a:Ad) (next epoch:Int):List Value:= [ptr a.heap,ptr a.maps,.map (some a.vols),.int .u32 next,.int .u32 epoch]
abbrev s0F (a:Ad) (next epoch:Int):a0E:=pts a.core (.cells (o0F a next epoch).toArray 59 (0,0))
abbrev z0Y (a:Ad) (by_:Nat) (o:Own) (log:List c0U) (depth:Nat) (st:c0U) (A:List a0E):Ending→List a0E→Prop:=
 b0P (fun _:c0U×Value×List (Nat×Obj)=>True) (fun _=> .tuple #[]) (fun e=>e0K a by_ (e::o) (bk depth log st) depth::A)
theorem y1Y (a:Ad) (by_:Nat) (o:Own) (log:List c0U) (depth:Nat) (gv:Value) (was to_:Int) (hn:log.length<1000000000):
 a0G prog 162 #[ptr a.log,.pointer (some ⟨a.heap,6,none⟩),.int .i64 to_] [e0K a by_ o log depth,i0R a by_ gv was] (z0Y a by_ o log depth (.keep was) [i0R a by_ gv to_]):=by
 refine en func162 ntmps162 fun R w0=> ?_
 try simp only[c0R]
 refine go 2 ?_;refine bx fun b4=> ?_;refine go 7 ?_;refine al fun b6=> ?_;refine go 7 ?_;refine b0X rfl Hb.o rfl (c1P a by_ o log depth (.keep was) _ ⟨_,_,rfl,rfl⟩ hn) gSp ?_;refine ns ?_;refine go 3 ?_;refine a0D (c0F Sc.o rfl gFd List.mem_cons_self (List.mem_cons_of_mem _ List.mem_cons_self) rfl) ?_;refine go 4 ?_;exact fE _ trivial
theorem h0C:w0C prog 3 a0H (fun _=>True):=s1T Tin.o
theorem z0Z:w0C prog 47 e0J (fun _=>True):=s1T Tin.o
theorem y0J:w0C prog 44 d0X (fun l=>l.length=32):=o2L F.ka44
theorem tt {α:Type} {m:List α} {p:α→Prop} (h: ∀x,p x): ∀x∈m,p x:=fun x _=>h x
theorem e0I (w:Option Int):(w.map a0H).getD (.int .i64 0)= .int .i64 (w.getD 0):=by cases w<;>rfl
theorem e1Y (w:Option Ent):(w.map e0E).getD (.agg #[.int .u32 0,.int .u32 0,.bool false,.int .i64 0,.int .i64 0,.int .u32 0])= .agg (f0U (w.getD g0L)).toArray:=by cases w<;>rfl
theorem y1Z (a:Ad) (by_:Nat) (o:Own) (log:List c0U) (depth:Nat) (was to_ ep:Int) (hn:log.length<1000000000):
 a0G prog 181 #[ptr a.log,.pointer (some ⟨a.core,3,none⟩),.int .u32 to_] [e0K a by_ o log depth,s0F a was ep] (z0Y a by_ o log depth (.next was) [s0F a to_ ep]):=by
 refine en func181 ntmps181 fun R w0=> ?_
 try simp only[o0F]
 refine go 2 ?_;refine bx fun b4=> ?_;refine go 7 ?_;refine al fun b6=> ?_;refine go 7 ?_;refine b0X rfl Hb.o rfl (c1P a by_ o log depth (.next was) _ ⟨_,_,rfl,rfl⟩ hn) gSp ?_;refine ns ?_;refine go 3 ?_;refine a0D (c0F Sc.o rfl gFd List.mem_cons_self (List.mem_cons_of_mem _ List.mem_cons_self) rfl) ?_;refine go 4 ?_;exact fE _ trivial
theorem q0E (a:Ad) (by_:Nat) (o:Own) (log:List c0U) (depth:Nat) (mb:Nat) (m:List (Int×Int)) (k v:Int) (st:c0U) (hn:log.length<1000000000)
 (hst: ∀b1 b2 b3 b4,s0E a by_ st (clo 282 [b1,b2,b3,b4]) [e0B b1 89 (.map (some mb)),e0B b2 3 (.int .i64 k),e0B b3 3 (.int .i64 ((a0C k m).getD 0)),e0B b4 4 (.bool (a0C k m).isSome)]):
 a0G prog 248 #[ptr a.log,.map (some mb),.int .i64 k,.int .i64 v] [e0K a by_ o log depth,b0K mb a0H a0H m] (z0Y a by_ o log depth st [b0K mb a0H a0H (b0O k v m)]):=by
 refine en func248 ntmps248 fun R w0=> ?_;refine go 2 ?_;refine bx fun b5=> ?_;refine bx fun b6=> ?_;refine go 6 ?_;refine a0D (o0W (ek:=a0H) (ev:=a0H) c0Y.o h0C (tt fun _=>trivial) trivial Zr.o rfl rfl gFd e0I) ?_;refine go 3 ?_;refine al fun b8=> ?_;refine al fun b9=> ?_;refine go 8 ?_;refine b0X rfl Hb.o rfl (g1W a by_ o log depth st _ (hst _ _ _ _) hn) gSp ?_;refine ns ?_;refine go 3 ?_;refine a0D (c0F Sc.o rfl gFd List.mem_cons_self List.mem_cons_self rfl) ?_;refine a0D (c0F Sc.o rfl gFd List.mem_cons_self (List.mem_cons_of_mem _ List.mem_cons_self) rfl) ?_;refine go 1 ?_;refine i0O (ek:=a0H) (ev:=a0H) c0Y.o h0C (tt fun _=>trivial) trivial rfl rfl rfl gFd ?_;refine go 1 ?_;exact fE _ trivial
theorem r0A (a:Ad) (by_:Nat) (o:Own) (log:List c0U) (depth:Nat) (mb:Nat) (m:List (Int×Int)) (k:Int) (st:c0U) (hn:log.length<1000000000)
 (hst: ∀b1 b2 b3 b4,s0E a by_ st (clo 286 [b1,b2,b3,b4]) [e0B b1 89 (.map (some mb)),e0B b2 3 (.int .i64 k),e0B b3 3 (.int .i64 ((a0C k m).getD 0)),e0B b4 4 (.bool (a0C k m).isSome)]):
 a0G prog 257 #[ptr a.log,.map (some mb),.int .i64 k] [e0K a by_ o log depth,b0K mb a0H a0H m] (z0Y a by_ o log depth st [b0K mb a0H a0H (b0D k m)]):=by
 refine en func257 ntmps257 fun R w0=> ?_;refine go 2 ?_;refine bx fun b4=> ?_;refine bx fun b5=> ?_;refine go 6 ?_;refine a0D (o0W (ek:=a0H) (ev:=a0H) c0Y.o h0C (tt fun _=>trivial) trivial Zr.o rfl rfl gFd e0I) ?_;refine go 3 ?_;refine al fun b6=> ?_;refine al fun b7=> ?_;refine go 8 ?_;refine b0X rfl Hb.o rfl (g1W a by_ o log depth st _ (hst _ _ _ _) hn) gSp ?_;refine ns ?_;refine go 3 ?_;refine a0D (c0F Sc.o rfl gFd List.mem_cons_self List.mem_cons_self rfl) ?_;refine a0D (c0F Sc.o rfl gFd List.mem_cons_self (List.mem_cons_of_mem _ List.mem_cons_self) rfl) ?_;refine q0N (ek:=a0H) (ev:=a0H) c0Y.o h0C (tt fun _=>trivial) trivial rfl rfl gFd ?_;refine go 1 ?_;exact fE _ trivial
theorem z1A (a:Ad) (by_:Nat) (o:Own) (log:List c0U) (depth:Nat) (m:List (B×Int)) (k:B) (v:Int) (hn:log.length<1000000000) (hm: ∀p∈m,p.1.length=32) (hk:k.length=32):
 a0G prog 204 #[ptr a.log,.map (some a.ix),d0X k,.int .i64 v] [e0K a by_ o log depth,b0K a.ix d0X a0H m] (z0Y a by_ o log depth (.index k (a0C k m)) [b0K a.ix d0X a0H (b0O k v m)]):=by
 have hsz:(k.map a0Q).toArray.size=32:=by simp[hk]
 refine en func204 ntmps204 fun R w0=> ?_
 try simp only[d0X]
 refine go 2 ?_;refine bx fun b5=> ?_;refine bx fun b6=> ?_;refine go 5 ?_;refine a0D (a0K Ag.o rfl (by simp[Value.cells,hk]) (a0I (by simp[Value.cells,hk]))) ?_;refine a0D (o0W (ek:=d0X) (ev:=a0H) (k:=k) c0Y.o y0J hm hk Zr.o rfl rfl gFd e0I) ?_;refine go 3 ?_;refine al fun b8=> ?_;refine al fun b9=> ?_;refine go 8 ?_;refine b0X rfl Hb.o rfl (g1W a by_ o log depth (.index k (a0C k m)) _ ⟨hk,_,_,_,_,.inl rfl,rfl⟩ hn) gSp ?_;refine ns ?_;refine go 3 ?_;refine a0D (c0F Sc.o rfl gFd List.mem_cons_self List.mem_cons_self rfl) ?_;refine a0D (e1W Ag.o rfl gFd List.mem_cons_self (List.mem_cons_of_mem _ List.mem_cons_self) (by simp[hk]) (a0I (by simp[hk]))) ?_;refine go 1 ?_;refine i0O (ek:=d0X) (ev:=a0H) (k:=k) c0Y.o y0J hm hk rfl rfl rfl gFd ?_;refine go 1 ?_;exact fE _ trivial
theorem v1D (a:Ad) (by_:Nat) (o:Own) (log:List c0U) (depth:Nat) (m:List (B×Int)) (k:B) (hn:log.length<1000000000) (hm: ∀p∈m,p.1.length=32) (hk:k.length=32):
 a0G prog 241 #[ptr a.log,.map (some a.ix),d0X k] [e0K a by_ o log depth,b0K a.ix d0X a0H m] (z0Y a by_ o log depth (.index k (a0C k m)) [b0K a.ix d0X a0H (b0D k m)]):=by
 have hsz:(k.map a0Q).toArray.size=32:=by simp[hk]
 refine en func241 ntmps241 fun R w0=> ?_
 try simp only[d0X]
 refine go 2 ?_;refine bx fun b4=> ?_;refine bx fun b5=> ?_;refine go 5 ?_;refine a0D (a0K Ag.o rfl (by simp[Value.cells,hk]) (a0I (by simp[Value.cells,hk]))) ?_;refine a0D (o0W (ek:=d0X) (ev:=a0H) (k:=k) c0Y.o y0J hm hk Zr.o rfl rfl gFd e0I) ?_;refine go 3 ?_;refine al fun b6=> ?_;refine al fun b7=> ?_;refine go 8 ?_;refine b0X rfl Hb.o rfl (g1W a by_ o log depth (.index k (a0C k m)) _ ⟨hk,_,_,_,_,.inr rfl,rfl⟩ hn) gSp ?_;refine ns ?_;refine go 3 ?_;refine a0D (c0F Sc.o rfl gFd List.mem_cons_self List.mem_cons_self rfl) ?_;refine a0D (e1W Ag.o rfl gFd List.mem_cons_self (List.mem_cons_of_mem _ List.mem_cons_self) (by simp[hk]) (a0I (by simp[hk]))) ?_;refine q0N (ek:=d0X) (ev:=a0H) (k:=k) c0Y.o y0J hm hk rfl rfl gFd ?_;refine go 1 ?_;exact fE _ trivial
theorem z1B (a:Ad) (by_:Nat) (o:Own) (log:List c0U) (depth:Nat) (m:List (Int×Ent)) (k:Int) (v:Ent) (hn:log.length<1000000000):
 a0G prog 119 #[ptr a.log,.map (some a.vols),.int .u32 k,e0E v] [e0K a by_ o log depth,b0K a.vols e0J e0E m] (z0Y a by_ o log depth (.vols k (a0C k m)) [b0K a.vols e0J e0E (b0O k v m)]):=by
 refine en func119 ntmps119 fun R w0=> ?_
 try simp only[e0E]
 refine go 2 ?_;refine bx fun b5=> ?_;refine bx fun b6=> ?_;refine bx fun b7=> ?_;refine go 6 ?_;refine a0D (o0W (ek:=e0J) (ev:=e0E) (k:=k) c0Y.o z0Z (tt fun _=>trivial) trivial Zr.o rfl rfl gFd e1Y) ?_;refine go 3 ?_;refine al fun b8=> ?_;refine al fun b9=> ?_;refine go 8 ?_;refine b0X rfl Hb.o rfl (g1W a by_ o log depth (.vols k (a0C k m)) _ ⟨_,_,_,_,.inl rfl,rfl⟩ hn) gSp ?_;refine ns ?_;refine go 3 ?_;refine a0D (c0F Sc.o rfl gFd List.mem_cons_self List.mem_cons_self rfl) ?_;refine a0D (c0F Sc.o rfl gFd List.mem_cons_self (List.mem_cons_of_mem _ List.mem_cons_self) rfl) ?_;refine go 1 ?_;refine i0O (ek:=e0J) (ev:=e0E) (k:=k) (v:=v) c0Y.o z0Z (tt fun _=>trivial) trivial rfl rfl rfl gFd ?_;refine go 1 ?_;exact fE _ trivial
theorem v1E (a:Ad) (by_:Nat) (o:Own) (log:List c0U) (depth:Nat) (m:List (Int×Ent)) (k:Int) (hn:log.length<1000000000):
 a0G prog 123 #[ptr a.log,.map (some a.vols),.int .u32 k] [e0K a by_ o log depth,b0K a.vols e0J e0E m] (z0Y a by_ o log depth (.vols k (a0C k m)) [b0K a.vols e0J e0E (b0D k m)]):=by
 refine en func123 ntmps123 fun R w0=> ?_;refine go 2 ?_;refine bx fun b4=> ?_;refine bx fun b5=> ?_;refine go 6 ?_;refine a0D (o0W (ek:=e0J) (ev:=e0E) (k:=k) c0Y.o z0Z (tt fun _=>trivial) trivial Zr.o rfl rfl gFd e1Y) ?_;refine go 3 ?_;refine al fun b6=> ?_;refine al fun b7=> ?_;refine go 8 ?_;refine b0X rfl Hb.o rfl (g1W a by_ o log depth (.vols k (a0C k m)) _ ⟨_,_,_,_,.inr rfl,rfl⟩ hn) gSp ?_;refine ns ?_;refine go 3 ?_;refine a0D (c0F Sc.o rfl gFd List.mem_cons_self List.mem_cons_self rfl) ?_;refine a0D (c0F Sc.o rfl gFd List.mem_cons_self (List.mem_cons_of_mem _ List.mem_cons_self) rfl) ?_;refine q0N (ek:=e0J) (ev:=e0E) (k:=k) c0Y.o z0Z (tt fun _=>trivial) trivial rfl rfl gFd ?_;refine go 1 ?_;exact fE _ trivial
theorem z1C (a:Ad) (by_:Nat) (o:Own) (log:List c0U) (depth:Nat) (gv to_:Value) (keep:Int) (was:List Int) (gc:List (Nat×Obj)) (hn:log.length<1000000000) (hg:n0E gv was gc) (hto:to_.oneCell'=true):
 a0G prog 260 #[ptr a.log,.pointer (some ⟨a.heap,5,none⟩),to_] [e0K a by_ o log depth,i0R a by_ gv keep,b0E (gc.map fun p=>pts p.1 p.2)] (z0Y a by_ o log depth (.gone was) [i0R a by_ to_ keep]):=by
 have hgv:gv.oneCell'=true:=by rcases hg with ⟨_,⟨_,rfl,_⟩| ⟨_,_,_,rfl,_⟩⟩<;>rfl
 have hb: ∀b1 b2,a0G prog 165 #[ptr a.log,.func (.func 287) #[] #[ptr b1,ptr b2]] [e0K a by_ o log depth,pts b1 (.cells #[gv] 90 (0,0)),pts b2 (.cells #[.pointer (some ⟨a.heap,5,none⟩)] 319 (0,0)),b0E (gc.map fun p=>pts p.1 p.2)]
  (a0T (.tuple #[]) [e0K a by_ ((.gone was,clo 287 [b1,b2],e0B b1 90 gv::e0B b2 319 (.pointer (some ⟨a.heap,5,none⟩))::gc)::o) (bk depth log (.gone was)) depth]):=by
  intro b1 b2 w F hs;refine e1X a by_ o log depth (.gone was) _ [b1,b2] (e0B b1 90 gv::e0B b2 319 (.pointer (some ⟨a.heap,5,none⟩))::gc) ⟨b1,b2,gv,gc,rfl,rfl,hg⟩ hn w F ?_;simp only[List.cons_append,List.nil_append]at hs;have h1:Sat w ([b0E (gc.map fun p=>pts p.1 p.2),F,pts b1 (.cells #[gv] 90 (0,0)),pts b2 (.cells #[.pointer (some ⟨a.heap,5,none⟩)] 319 (0,0)),e0K a by_ o log depth]++ []):=hs.perm (show b0A _ _ _ from gSp);have h2:=(b0M.1 h1).perm List.perm_append_comm
  try simp only[List.cons_append,List.nil_append]at h2
  have h3:Sat w ([pts b1 (.cells #[gv] 90 (0,0)),pts b2 (.cells #[.pointer (some ⟨a.heap,5,none⟩)] 319 (0,0))]++(F::e0K a by_ o log depth::(gc.map fun p=>pts p.1 p.2))):=h2.perm (show b0A _ _ _ from gSp);have h4:Sat w (((e0B b1 90 gv::e0B b2 319 (.pointer (some ⟨a.heap,5,none⟩))::gc).map fun p=>pts p.1 p.2)++ [F,e0K a by_ o log depth]):=by
   simp only[List.map_cons,List.cons_append];refine h3.perm (List.Perm.cons _ (List.Perm.cons _ ?_));exact List.perm_append_comm (l₁:= [F,e0K a by_ o log depth])
  exact(b0M.2 h4).perm (by show b0A _ [_,_,_] [];exact gSp)
 refine en func260 ntmps260 fun R w0=> ?_
 try simp only[c0R]
 refine go 2 ?_;refine bx fun b4=> ?_;refine go 6 ?_;skip;refine go 1 ?_;refine al fun b6=> ?_;refine(d0T Sz.o rfl rfl hgv (by rfl) (by rfl) ?_);refine go 6 ?_;refine b0X rfl Hb.o rfl (hb _ _) gSp ?_;refine ns ?_;refine go 3 ?_;refine a0D (c0F Sc.o rfl gFd List.mem_cons_self (List.mem_cons_of_mem _ List.mem_cons_self) rfl) ?_;refine go 2 ?_;refine(d0T Sz.o rfl rfl hto (by rfl) (by rfl) ?_);refine go 1 ?_;exact fE _ trivial
theorem t0T {k:Int} (h:inR k=true): -9223372036854775808≤k∧k≤9223372036854775807:=by simpa [inR] using h
theorem e1Z (mb:Nat) (m:List (Int×Int)) (k:Int) (w:Option Int):a0G prog 283 #[.map (some mb),.int .i64 k,.int .i64 (w.getD 0),.bool w.isSome] [b0K mb a0H a0H m] (a0T (.tuple #[]) [b0K mb a0H a0H (f0R k w m)]):=by
 cases w with
 |none=>
  refine en func283 ntmps283 fun R w0=> ?_
  try simp only[Option.getD_none,Option.isSome_none]
  refine go 12 ?_;refine(q0N (ek:=a0H) (ev:=a0H) c0Y.o h0C (tt fun _=>trivial) trivial rfl rfl gFd ?_);refine go 2 ?_;exact rG
 |some v=>
  refine en func283 ntmps283 fun R w0=> ?_
  try simp only[Option.getD_some,Option.isSome_some]
  refine go 14 ?_;refine(i0O (ek:=a0H) (ev:=a0H) c0Y.o h0C (tt fun _=>trivial) trivial rfl rfl rfl gFd ?_);refine go 1 ?_;refine d0Q rfl rfl gSp
theorem f1A (mb:Nat) (m:List (B×Int)) (k:B) (w:Option Int) (hm: ∀p∈m,p.1.length=32) (hk:k.length=32):a0G prog 254 #[.map (some mb),d0X k,.int .i64 (w.getD 0),.bool w.isSome] [b0K mb d0X a0H m] (a0T (.tuple #[]) [b0K mb d0X a0H (f0R k w m)]):=by
 cases w with
 |none=>
  refine en func254 ntmps254 fun R w0=> ?_
  try simp only[Option.getD_none,Option.isSome_none]
  refine go 2 ?_;refine bx fun b5=> ?_;refine go 13 ?_;refine a0D (a0K Ag.o rfl (by simp[d0X,Value.cells,hk]) (a0I (by simp[d0X,Value.cells,hk]))) ?_;refine(q0N (ek:=d0X) (ev:=a0H) c0Y.o y0J hm hk rfl rfl gFd ?_);refine go 2 ?_;exact rG
 |some v=>
  refine en func254 ntmps254 fun R w0=> ?_
  try simp only[Option.getD_some,Option.isSome_some]
  refine go 2 ?_;refine bx fun b5=> ?_;refine go 14 ?_;refine a0D (a0K Ag.o rfl (by simp[d0X,Value.cells,hk]) (a0I (by simp[d0X,Value.cells,hk]))) ?_;refine go 1 ?_;refine(i0O (ek:=d0X) (ev:=a0H) c0Y.o y0J hm hk rfl rfl rfl gFd ?_);refine go 1 ?_;refine d0Q rfl rfl gSp
theorem f1B (mb:Nat) (m:List (Int×Ent)) (k:Int) (w:Option Ent):a0G prog 167 #[.map (some mb),.int .u32 k,e0E (w.getD g0L),.bool w.isSome] [b0K mb e0J e0E m] (a0T (.tuple #[]) [b0K mb e0J e0E (f0R k w m)]):=by
 cases w with
 |none=>
  refine en func167 ntmps167 fun R w0=> ?_
  try simp only[Option.getD_none,Option.isSome_none]
  refine go 2 ?_;refine bx fun b6=> ?_;refine go 14 ?_;refine(q0N (ek:=e0J) (ev:=e0E) c0Y.o z0Z (tt fun _=>trivial) trivial rfl rfl gFd ?_);refine go 2 ?_;exact rG
 |some v=>
  refine en func167 ntmps167 fun R w0=> ?_
  try simp only[Option.getD_some,Option.isSome_some]
  refine go 2 ?_;refine bx fun b6=> ?_;refine go 16 ?_;refine(i0O (ek:=e0J) (ev:=e0E) c0Y.o z0Z (tt fun _=>trivial) trivial rfl rfl rfl gFd ?_);refine go 1 ?_;refine d0Q rfl rfl gSp
abbrev cel (b:Nat) (t:TypeId) (v:Value):a0E:=pts b (.cells #[v] t (0,0))
abbrev f2E (b1 b2 b3 b4 mb:Nat) (k:Int) (w:Option Int):List a0E:= [cel b1 89 (.map (some mb)),cel b2 3 (.int .i64 k),cel b3 3 (.int .i64 (w.getD 0)),cel b4 4 (.bool w.isSome)]
abbrev f2F (b1 b2 b3 b4 mb:Nat) (k:B) (w:Option Int):List a0E:= [cel b1 208 (.map (some mb)),pts b2 (.cells (k.map a0Q).toArray 44 (0,0)),cel b3 3 (.int .i64 (w.getD 0)),cel b4 4 (.bool w.isSome)]
abbrev f2G (b1 b2 b3 b4 mb:Nat) (k:Int) (w:Option Ent):List a0E:= [cel b1 57 (.map (some mb)),cel b2 47 (.int .u32 k),pts b3 (.cells (f0U (w.getD g0L)).toArray 50 (0,0)),cel b4 4 (.bool w.isSome)]
theorem b2Y (b1 b2 b3 b4 mb:Nat) (m:List (Int×Int)) (k:Int) (w:Option Int):a0G prog 282 #[ptr b1,ptr b2,ptr b3,ptr b4] (f2E b1 b2 b3 b4 mb k w++ [b0K mb a0H a0H m]) (a0T (.tuple #[]) (f2E b1 b2 b3 b4 mb k w++ [b0K mb a0H a0H (f0R k w m)])):=by
 refine en func282 ntmps282 fun R w0=> ?_;refine cg 5 (e1Z mb m k w) ?_;refine go 1 ?_;refine d0Q rfl rfl gSp
theorem v1F (b1 b2 b3 b4 mb:Nat) (m:List (Int×Int)) (k:Int) (w:Option Int):a0G prog 286 #[ptr b1,ptr b2,ptr b3,ptr b4] (f2E b1 b2 b3 b4 mb k w++ [b0K mb a0H a0H m]) (a0T (.tuple #[]) (f2E b1 b2 b3 b4 mb k w++ [b0K mb a0H a0H (f0R k w m)])):=by
 refine en func286 ntmps286 fun R w0=> ?_;refine cg 5 (e1Z mb m k w) ?_;refine go 1 ?_;refine d0Q rfl rfl gSp
theorem u2P (b1 b2 b3 b4 mb:Nat) (m:List (B×Int)) (k:B) (w:Option Int) (hm: ∀p∈m,p.1.length=32) (hk:k.length=32):a0G prog 253 #[ptr b1,ptr b2,ptr b3,ptr b4] (f2F b1 b2 b3 b4 mb k w++ [b0K mb d0X a0H m]) (a0T (.tuple #[]) (f2F b1 b2 b3 b4 mb k w++ [b0K mb d0X a0H (f0R k w m)])):=by
 refine en func253 ntmps253 fun R w0=> ?_;refine go 2 ?_;refine a0D (a0K Ag.o rfl (by simp[hk]) (a0I (by simp[hk]))) ?_;refine cg 2 (f1A mb m k w hm hk) ?_;refine go 1 ?_;refine d0Q rfl rfl gSp
theorem p2I (b1 b2 b3 b4 mb:Nat) (m:List (B×Int)) (k:B) (w:Option Int) (hm: ∀p∈m,p.1.length=32) (hk:k.length=32):a0G prog 279 #[ptr b1,ptr b2,ptr b3,ptr b4] (f2F b1 b2 b3 b4 mb k w++ [b0K mb d0X a0H m]) (a0T (.tuple #[]) (f2F b1 b2 b3 b4 mb k w++ [b0K mb d0X a0H (f0R k w m)])):=by
 refine en func279 ntmps279 fun R w0=> ?_;refine go 2 ?_;refine a0D (a0K Ag.o rfl (by simp[hk]) (a0I (by simp[hk]))) ?_;refine cg 2 (f1A mb m k w hm hk) ?_;refine go 1 ?_;refine d0Q rfl rfl gSp
theorem u2Q (b1 b2 b3 b4 mb:Nat) (m:List (Int×Ent)) (k:Int) (w:Option Ent):a0G prog 166 #[ptr b1,ptr b2,ptr b3,ptr b4] (f2G b1 b2 b3 b4 mb k w++ [b0K mb e0J e0E m]) (a0T (.tuple #[]) (f2G b1 b2 b3 b4 mb k w++ [b0K mb e0J e0E (f0R k w m)])):=by
 refine en func166 ntmps166 fun R w0=> ?_;refine cg 5 (f1B mb m k w) ?_;refine go 1 ?_;refine d0Q rfl rfl gSp
theorem p2J (b1 b2 b3 b4 mb:Nat) (m:List (Int×Ent)) (k:Int) (w:Option Ent):a0G prog 169 #[ptr b1,ptr b2,ptr b3,ptr b4] (f2G b1 b2 b3 b4 mb k w++ [b0K mb e0J e0E m]) (a0T (.tuple #[]) (f2G b1 b2 b3 b4 mb k w++ [b0K mb e0J e0E (f0R k w m)])):=by
 refine en func169 ntmps169 fun R w0=> ?_;refine cg 5 (f1B mb m k w) ?_;refine go 1 ?_;refine d0Q rfl rfl gSp
theorem u2R (a:Ad) (by_ b1 b2:Nat) (gv:Value) (w keep:Int):a0G prog 195 #[ptr b1,ptr b2] [cel b1 3 (.int .i64 w),cel b2 236 (.pointer (some ⟨a.heap,6,none⟩)),i0R a by_ gv keep] (a0T (.tuple #[]) [i0R a by_ gv w]):=by
 refine en func195 ntmps195 fun R w0=> ?_
 try simp only[c0R]
 refine go 6 ?_;refine d0Q rfl rfl gSp
theorem u2S (a:Ad) (b1 b2:Nat) (w next ep:Int):a0G prog 221 #[ptr b1,ptr b2] [cel b1 47 (.int .u32 w),cel b2 256 (.pointer (some ⟨a.core,3,none⟩)),s0F a next ep] (a0T (.tuple #[]) [s0F a w ep]):=by
 refine en func221 ntmps221 fun R w0=> ?_
 try simp only[o0F]
 refine go 6 ?_;refine d0Q rfl rfl gSp
theorem u2T (a:Ad) (by_ b1 b2:Nat) (gv x:Value) (keep:Int) (hx:x.oneCell'=true):a0G prog 287 #[ptr b1,ptr b2] [cel b1 90 x,cel b2 319 (.pointer (some ⟨a.heap,5,none⟩)),i0R a by_ gv keep] (a0T (.tuple #[]) [i0R a by_ x keep]):=by
 refine en func287 ntmps287 fun R w0=> ?_
 try simp only[c0R]
 refine go 4 ?_;refine(d0T Sz.o rfl rfl hx (by rfl) (by rfl) ?_);refine go 1 ?_;refine d0Q rfl rfl gSp
theorem z2T (a:Ad) (by_ b1 b2:Nat) (gv:Value) (keep k:Int) (fr:Nat) (g:List Nat) (hk:inR k=true) (hfr:fr≤5000) (hl:g.length≤5000):a0G prog 284 #[ptr b1,ptr b2] ([cel b1 55 (ptr a.heap),cel b2 3 (.int .i64 k),i0R a by_ gv keep]++gm a.gr a.grl fr g) (a0T (.tuple #[]) ([i0R a by_ gv keep]++gm a.gr a.grl fr (mvL fr g k 1 0))):=by
 refine en func284 ntmps284 fun R w0=> ?_
 try simp only[c0R]
 refine tl 5 ?_;refine cg 6 (l1Y a.gr a.grl fr g k (t0T hk) hfr hl) ?_;refine go 1 ?_;refine d0Q rfl rfl gSp
theorem z2U (a:Ad) (by_ b1 b2:Nat) (gv:Value) (keep k:Int) (fr:Nat) (g:List Nat) (hk:inR k=true) (hfr:fr≤5000) (hl:g.length≤5000):a0G prog 259 #[ptr b1,ptr b2] ([cel b1 55 (ptr a.heap),cel b2 3 (.int .i64 k),i0R a by_ gv keep]++gm a.gr a.grl fr g) (a0T (.tuple #[]) ([i0R a by_ gv keep]++gm a.gr a.grl fr (mvL fr g k 2 1))):=by
 refine en func259 ntmps259 fun R w0=> ?_
 try simp only[c0R]
 refine tl 5 ?_;refine cg 6 (l1Z a.gr a.grl fr g k (t0T hk) hfr hl) ?_;refine go 1 ?_;refine d0Q rfl rfl gSp
def o0M (s:St):Prop:=s.fr≤5000∧s.g.length≤5000∧(∀x∈s.g,x<3)∧ ∀p∈s.index,p.1.length=32
abbrev i0G (c:List (Nat×Obj)):List a0E:=c.map fun p=>pts p.1 p.2
abbrev TT (a:Ad) (by_:Nat) (gv:Value) (gc:List (Nat×Obj)) (s:St):List a0E:= [i0R a by_ gv s.keep,b0E (i0G gc),b0K by_ a0H a0H s.young,b0K a.refs a0H a0H s.refs,b0K a.ix d0X a0H s.index,b0K a.vols e0J e0E s.vols,s0F a s.next s.epoch,
 pts a.gr (.cells (l0V s.fr a.grl s.g).toArray 192 (0,0)),pts a.grl (.cells (s.g.map gst).toArray 3 (0,0))]
theorem u0O (fr:Nat) (l:List Nat) (x:Int) (k t:Nat):(mvL fr l x k t).length=l.length:=by unfold mvL;split<;>simp
theorem u0P {fr:Nat} {l:List Nat} {x:Int} {k t:Nat} (ht:t<3) (hl: ∀y∈l,y<3): ∀y∈mvL fr l x k t,y<3:=by
 intro y hy;unfold mvL at hy;split at hy
 ·rcases List.mem_or_eq_of_mem_set hy with h|rfl
  ·exact hl y h
  ·exact ht
 ·exact hl y hy
theorem v1G {K V:Type} [DecidableEq K] {k:K} {v:V} : ∀ {m:List (K×V)} {p:K×V},p∈b0O k v m→p=(k,v)∨p∈m
 | [],p,h=>by simp[b0O]at h;exact .inl h
 | (j,u)::m,p,h=>by
  unfold b0O at h;split at h
  ·rcases List.mem_cons.1 h with h|h
   ·exact .inl h
   ·exact .inr (List.mem_cons_of_mem _ h)
  ·rcases List.mem_cons.1 h with h|h
   ·exact .inr (by simp[h])
   ·rcases v1G h with h|h
    ·exact .inl h
    ·exact .inr (List.mem_cons_of_mem _ h)
theorem v1H {K V:Type} [DecidableEq K] {k:K} : ∀ {m:List (K×V)} {p:K×V},p∈b0D k m→p∈m
 | [],p,h=>by simp[b0D]at h
 | (j,u)::m,p,h=>by
  unfold b0D at h;split at h
  ·exact List.mem_cons_of_mem _ h
  ·rcases List.mem_cons.1 h with h|h
   ·simp[h]
   ·exact List.mem_cons_of_mem _ (v1H h)
theorem p2K {a:Ad} {by_:Nat} {st:c0U} {v:Value} {c:List (Nat×Obj)} (h:s0E a by_ st v c) {s:St} (hs:o0M s):o0M (o0Q st s):=by
 obtain⟨h1,h2,h3,h4⟩:=hs;cases st with
 |give k=>exact⟨h1,by simpa [o0Q,u0O] using h2,u0P (by omega) h3,h4⟩
 |back k=>exact⟨h1,by simpa [o0Q,u0O] using h2,u0P (by omega) h3,h4⟩
 |index k w=>
  refine⟨h1,h2,h3,fun p hp=> ?_⟩;simp only[o0Q,Sb.f0R]at hp;split at hp
  ·rcases v1G hp with rfl|hp
   ·exact h.1
   ·exact h4 p hp
  ·exact h4 p (v1H hp)
 |_=>exact⟨h1,h2,h3,h4⟩
theorem p2L (a:Ad) (by_:Nat) (gv:Value) (gc:List (Nat×Obj)) (s:St) (st:c0U) (v:Value) (c:List (Nat×Obj)) (hs:s0E a by_ st v c) (hg:n0E gv s.gone gc) (hok:o0M s):
 ∃f bb,v=clo f bb∧f0H prog f=true∧a0G prog f (bb.map ptr).toArray (b0E (i0G c)::TT a by_ gv gc s)
  (b0P (fun x:Value×List (Nat×Obj)=>n0E x.1 (o0Q st s).gone x.2∧o0M (o0Q st s)) (fun _=> .tuple #[]) (fun x=>TT a by_ x.1 x.2 (o0Q st s))):=by
 have hok':=p2K hs hok;cases st with
 |give k=>
  obtain⟨hk,b1,b2,rfl,rfl⟩:=hs;refine⟨_,[b1,b2],rfl,Hb.o,g0F (gv,gc) ⟨hg,hok'⟩ rfl rfl (k0N ?_)⟩;exact j0J (z2T a by_ b1 b2 gv s.keep k s.fr s.g hk hok.1 hok.2.1) gSp gSp
 |back k=>
  obtain⟨hk,b1,b2,rfl,rfl⟩:=hs;refine⟨_,[b1,b2],rfl,Hb.o,g0F (gv,gc) ⟨hg,hok'⟩ rfl rfl (k0N ?_)⟩;exact j0J (z2U a by_ b1 b2 gv s.keep k s.fr s.g hk hok.1 hok.2.1) gSp gSp
 |keep w=>
  obtain⟨b1,b2,rfl,rfl⟩:=hs;refine⟨_,[b1,b2],rfl,Hb.o,g0F (gv,gc) ⟨hg,hok'⟩ rfl rfl (k0N ?_)⟩;exact j0J (u2R a by_ b1 b2 gv w s.keep) gSp gSp
 |next w=>
  obtain⟨b1,b2,rfl,rfl⟩:=hs;refine⟨_,[b1,b2],rfl,Hb.o,g0F (gv,gc) ⟨hg,hok'⟩ rfl rfl (k0N ?_)⟩;exact j0J (u2S a b1 b2 w s.next s.epoch) gSp gSp
 |gone w=>
  obtain⟨b1,b2,x,b3,rfl,rfl,hx⟩:=hs;have hx1:x.oneCell'=true:=by rcases hx with ⟨_,⟨_,rfl,_⟩| ⟨_,_,_,rfl,_⟩⟩<;>rfl
  refine⟨_,[b1,b2],rfl,Hb.o,g0F (x,b3) ⟨hx,hok'⟩ rfl rfl (i1R (Pre:=cel b1 90 x::cel b2 319 (.pointer (some ⟨a.heap,5,none⟩))::b0E (i0G b3)::TT a by_ gv gc s) (fun w F h=> ?_) ?_)⟩
  ·have h0:Sat w (b0E (i0G (e0B b1 90 x::e0B b2 319 (.pointer (some ⟨a.heap,5,none⟩))::b3))::(TT a by_ gv gc s++F)):=h;have h1:=b0M.1 h0;have h1':Sat w ([cel b1 90 x,cel b2 319 (.pointer (some ⟨a.heap,5,none⟩))]++(i0G b3++(TT a by_ gv gc s++F))):=h1;have h2:=h1'.perm List.perm_append_comm;rw[List.append_assoc]at h2;have h3:=(b0M.2 h2).perm (List.perm_append_comm (l₁:=b0E (i0G b3)::(TT a by_ gv gc s++F)) (l₂:= [cel b1 90 x,cel b2 319 (.pointer (some ⟨a.heap,5,none⟩))]));exact h3
  ·exact j0J (u2T a by_ b1 b2 gv x s.keep hx1) gSp gSp
 |refs k w=>
  obtain⟨b1,b2,b3,b4,hv,rfl⟩:=hs;rcases hv with rfl|rfl
  ·refine⟨_,[b1,b2,b3,b4],rfl,Hb.o,g0F (gv,gc) ⟨hg,hok'⟩ rfl rfl (k0N ?_)⟩;exact j0J (b2Y b1 b2 b3 b4 a.refs s.refs k w) gSp gSp
  ·refine⟨_,[b1,b2,b3,b4],rfl,Hb.o,g0F (gv,gc) ⟨hg,hok'⟩ rfl rfl (k0N ?_)⟩;exact j0J (v1F b1 b2 b3 b4 a.refs s.refs k w) gSp gSp
 |young k w=>
  obtain⟨b1,b2,b3,b4,hv,rfl⟩:=hs;rcases hv with rfl|rfl
  ·refine⟨_,[b1,b2,b3,b4],rfl,Hb.o,g0F (gv,gc) ⟨hg,hok'⟩ rfl rfl (k0N ?_)⟩;exact j0J (b2Y b1 b2 b3 b4 by_ s.young k w) gSp gSp
  ·refine⟨_,[b1,b2,b3,b4],rfl,Hb.o,g0F (gv,gc) ⟨hg,hok'⟩ rfl rfl (k0N ?_)⟩;exact j0J (v1F b1 b2 b3 b4 by_ s.young k w) gSp gSp
 |index k w=>
  obtain⟨hk,b1,b2,b3,b4,hv,rfl⟩:=hs;rcases hv with rfl|rfl
  ·refine⟨_,[b1,b2,b3,b4],rfl,Hb.o,g0F (gv,gc) ⟨hg,hok'⟩ rfl rfl (k0N ?_)⟩;exact j0J (u2P b1 b2 b3 b4 a.ix s.index k w hok.2.2.2 hk) gSp gSp
  ·refine⟨_,[b1,b2,b3,b4],rfl,Hb.o,g0F (gv,gc) ⟨hg,hok'⟩ rfl rfl (k0N ?_)⟩;exact j0J (p2I b1 b2 b3 b4 a.ix s.index k w hok.2.2.2 hk) gSp gSp
 |vols k w=>
  obtain⟨b1,b2,b3,b4,hv,rfl⟩:=hs;rcases hv with rfl|rfl
  ·refine⟨_,[b1,b2,b3,b4],rfl,Hb.o,g0F (gv,gc) ⟨hg,hok'⟩ rfl rfl (k0N ?_)⟩;exact j0J (u2Q b1 b2 b3 b4 a.vols s.vols k w) gSp gSp
  ·refine⟨_,[b1,b2,b3,b4],rfl,Hb.o,g0F (gv,gc) ⟨hg,hok'⟩ rfl rfl (k0N ?_)⟩;exact j0J (p2J b1 b2 b3 b4 a.vols s.vols k w) gSp gSp
theorem f2H {a:Ad} {by_:Nat} {o:Own} {log:List c0U} {vals:List Value} {n:Nat} (h:p0O a by_ o log vals) (hn:log.length=n+1):
 ∃(vals':List Value) (e:c0U×Value×List (Nat×Obj)) (o':Own),vals=vals'++ [e.2.1]∧vals'.length=n∧o.Perm (e::o')∧s0E a by_ e.1 e.2.1 e.2.2∧log.drop n= [e.1]∧p0O a by_ o' (log.take n) vals':=by
 obtain⟨h1,live,rest,hp,rfl,rfl,hl⟩:=h;have hlen:live.length=n+1:=by simpa using hn
 obtain⟨l',e,rfl⟩: ∃l' e,live=l'++ [e]:=⟨live.dropLast,live.getLast (by intro h;simp[h]at hlen),(List.dropLast_concat_getLast _).symm⟩;have hl':l'.length=n:=by simpa using hlen
 refine⟨l'.map (·.2.1),e,l'++rest,by simp,by simpa using hl',?_,hl e (by simp),?_,?_⟩
 ·refine hp.trans ?_;rw[List.append_assoc];exact List.perm_middle
 ·simp[←hl']
 ·refine⟨by simp at h1 ⊢;omega,l',rest,List.Perm.refl _,?_,rfl,fun e' he=>hl e' (by simp[he])⟩;rw[List.map_append,←hl',List.take_left' (by simp)]
theorem u2U {o o':Own} {e:c0U×Value×List (Nat×Obj)} {L M:List a0E} (hp:o.Perm (e::o')) (hL:Fnd L (b0E (Own.cells o)) M) (w:World) (h:Sat w L):Sat w (b0E (i0G e.2.2)::b0E (Own.cells o')::M):=by
 have h1:=b0M.1 (hL.sat h);have h2:(Own.cells o).Perm (i0G e.2.2++Own.cells o'):=by
  have:=(hp.flatMap_right (fun x=>x.2.2)).map (fun p:Nat×Obj=>pts p.1 p.2);simpa [Own.cells,i0G] using this
 have h3:Sat w (i0G e.2.2++(Own.cells o'++M)):=h1.perm ((h2.append_right M).trans (by rw[List.append_assoc]));have h4:Sat w (Own.cells o'++(b0E (i0G e.2.2)::M)):=(b0M.2 h3).perm List.perm_middle.symm;exact(b0M.2 h4).perm (List.Perm.swap _ _ _)
theorem f1C (s:St): ∀l,(e0O s l).log=s.log∧(e0O s l).depth=s.depth
 | []=>⟨rfl,rfl⟩
 |st::l=>by
  have:=f1C s l;cases st<;>exact this
theorem k2F {l:List c0U} {k n:Nat} {e:c0U} (hk:k=n+1) (hl:(l.take k).drop n= [e]):l.drop n=e::l.drop k:=by
 subst hk;have h1:(l.take (n+1))++l.drop (n+1)=l:=List.take_append_drop _ _;have h2:n≤(l.take (n+1)).length:=by
  rcases Nat.lt_or_ge (l.take (n+1)).length n with h|h
  ·rw[List.drop_eq_nil_of_le (by omega)]at hl;cases hl
  ·exact h
 conv=>lhs;rw[←h1]
 rw[List.drop_append_of_le_length h2,hl];rfl
theorem u2V (a:Ad) (by_:Nat) (gv0:Value) (gc0:List (Nat×Obj)) (o0:Own) (s:St) (i0H:Nat) (hg0:n0E gv0 s.gone gc0) (hok0:o0M s):
 a0G prog 148 #[ptr a.log,.int .i64 i0H] (e0K a by_ o0 s.log s.depth::TT a by_ gv0 gc0 s)
  (b0P (fun x:Value×List (Nat×Obj)×Own=>n0E x.1 (d0M i0H s).gone x.2.1∧o0M (d0M i0H s)) (fun _=> .tuple #[]) (fun x=>e0K a by_ x.2.2 (d0M i0H s).log (d0M i0H s).depth::TT a by_ x.1 x.2.1 (d0M i0H s))):=by
 refine en func148 ntmps148 fun R w0=> ?_;refine go 1 ?_;have hx0:s.log.length≤s.log.length∧(i0H≤s.log.length∨s.log.length=s.log.length)∧n0E gv0 (e0O s (s.log.drop s.log.length)).gone gc0∧o0M (e0O s (s.log.drop s.log.length)):=by rw[List.drop_length];exact⟨Nat.le_refl _,.inr rfl,hg0,hok0⟩
 refine k1U (L':=e0K a by_ o0 (s.log.take s.log.length) s.depth::(TT a by_ gv0 gc0 (e0O s (s.log.drop s.log.length))++ [R])) (by rw[List.take_length,List.drop_length];rfl) ?_;simp only[TT,List.cons_append,List.nil_append];refine a0V (X:= {x:Nat×Value×List (Nat×Obj)×Own // x.1≤s.log.length∧(i0H≤x.1∨x.1=s.log.length)∧n0E x.2.1 (e0O s (s.log.drop x.1)).gone x.2.2.1∧o0M (e0O s (s.log.drop x.1))}) (fun _=> [(0,ptr a.log),(1,.int .i64 i0H)]) (fun x=>e0K a by_ x.1.2.2.2 (s.log.take x.1.1) s.depth::(TT a by_ x.1.2.1 x.1.2.2.1 (e0O s (s.log.drop x.1.1))++ [R])) (fun x=>x.1.1) ⟨(s.log.length,gv0,gc0,o0),hx0⟩ gSu gSp ?_;rintro⟨⟨k,gv,gc,o⟩,hk,hmk,hg,hok⟩ m0 hm0
 try simp only at hm0
 try dsimp only
 dsimp only at hk hmk hg hok;simp only[TT,List.cons_append,List.nil_append];refine y0I gFd fun v vals hlk hdp hv1=> ?_;have hlen:=hlk.len;rw[List.length_take,Nat.min_eq_left hk]at hlen;refine go 7 ?_;refine a0D (i0N Tsl.o rfl gFd) ?_;refine go 4 ?_;refine a0O rfl (fun hb12=> ?_) (fun hb12=> ?_)
 ·have hkm:i0H<k:=by have:=of_decide_eq_true hb12;omega
  obtain⟨n,rfl⟩: ∃n,k=n+1:=⟨k-1,by omega⟩;obtain⟨vals',e,o',rfl,hvl,hperm,hst,hdr,hlk'⟩:=f2H (n:=n) hlk (by rw[List.length_take];omega);obtain⟨f,bb,hclo,hbody,hdoes⟩:=p2L a by_ gv gc (e0O s (s.log.drop (n+1))) e.1 e.2.1 e.2.2 hst hg hok;have hdrop:=k2F (n:=n) (l:=s.log) rfl hdr;have htk:(s.log.take (n+1)).take n=s.log.take n:=by rw[List.take_take,Nat.min_eq_left (by omega)]
  rw[htk]at hlk';refine i0T gFd (by omega) fun bl cap hvv hcap=> ?_;subst hvv;have hnl:(vals'++ [e.2.1]).length=n+1:=by simp[hvl]
  have hb9:n+1≤1000000000:=by have:=hlk.1;rw[List.length_take]at this;omega
  have hix:0+((((vals'++ [e.2.1]).length:Nat):Int)-1).toNat*1=vals'.length:=by omega
  refine go 9 ?_;refine a0D (i0N Tsl.o rfl gFd) ?_;refine go 12 ?_;refine a0D (a0X Sc.o rfl gFd (v:= .func (.func f) #[] (bb.map ptr).toArray) (by rw[e0F,hix,List.getElem?_append_right (Nat.le_refl _)];simp[hclo])) ?_;refine go 11 ?_;refine a0D (i1Q Tsl.o rfl rfl (by omega)) ?_;refine go 5 ?_;refine i2O (k:=n) gFd (by omega) ?_;rw[show(vals'++ [e.2.1]).take (n*1)=vals' by rw[Nat.mul_one,←hvl,List.take_left]];refine b0U (u2U hperm gFd) ?_;refine go 2 ?_;refine d0Z rfl hbody rfl (hdoes) gSp ?_;rintro⟨gv',gc'⟩ hx;refine ns ?_;refine go 1 ?_;have htn:((((vals'++ [e.2.1]).length:Nat):Int)-1).toNat=n:=by omega
  have hun:o0Q e.1 (e0O s (s.log.drop (n+1)))=e0O s (s.log.drop n):=by rw[hdrop];rfl
  rw[htn,hun];refine b0F (L':=_) (q0D (o:=o') (vals:=vals') hlk' hdp (by rw[hvl];exact gSp)) ?_;exact rd idh (⟨(n,gv',gc',o'),by omega,.inl (by omega),by rw[hdrop];exact hx.1,by rw[hdrop];exact hx.2⟩)
 ·have hkm: ¬i0H<k:=by have:=of_decide_eq_false hb12;omega
  have hs1:(d0M i0H s).log=s.log.take k:=by
   show s.log.take i0H=_;rcases hmk with h|h
   ·rw[show i0H=k by omega]
   ·rw[h,List.take_of_length_le (by omega),List.take_length]
  have hd1:s.log.drop i0H=s.log.drop k:=by
   rcases hmk with h|h
   ·rw[show i0H=k by omega]
   ·rw[h,List.drop_eq_nil_of_le (by omega),List.drop_length]
  have hs2:d0M i0H s= {e0O s (s.log.drop k)with log:=s.log.take k} :=by
   show {e0O s (s.log.drop i0H)with log:=s.log.take i0H} =_;rw[hd1,show s.log.take i0H=s.log.take k from hs1]
  refine go 1 ?_;refine b0F (L':=_) (q0D hlk hdp gSp) (a2S (gv,gc,o) (by rw[hs2];exact⟨hg,hok⟩) rfl rfl (by rw[hs2,show({e0O s (s.log.drop k)with log:=s.log.take k} :St).depth=s.depth from(f1C s _).2];exact gSp))
end Go.Proofs.Q

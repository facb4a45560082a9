/- Part of the proof; no statement of its own. -/
import Derived.Test.YtpinhnikemamjaaGreatDoorN18
import Derived.Test.YtpinhnikemamjaaGreatDoorN07
import Derived.Test.YtpinhnikemamjaaGreatDoorN05
set_option linter.all false
set_option maxRecDepth 4000
set_option maxHeartbeats 4000000
attribute [local irreducible] Go.Sl.a0O Go.Sl.OW Go.Sl.CW Go.Sl.OS Go.Sl.OM Go.Sl.OMf Go.Sl.KM
namespace Go.Proofs.Q
open Go.Sl Go.Sb Tryz
section
attribute [local semireducible] Sl.a0O Sl.OW Sl.CW Sl.OS Sl.OM Sl.OMf Sl.KM
section
variable {c:Cx} {ops:Array Oper} {Q:Exit→Act→World→Prop} {rest:List Oper} {env:List (Nat×Value)} {L M:List a0C} {y:Code} {a:Ad} {by_:Nat} {o:Own} {log:List c0P} {depth:Nat}
theorem x0O (hL:Fnd L (e0E a by_ o log depth) M) (h: ∀v vals,o0Y a by_ o log vals→depth≤1000000000→v.oneCell'=true→CW c y Q env (pts a.log (.cells #[v,.int .i64 depth] 154 (0,0))::b0H 1 1 v vals.length vals::b0D (Own.cells o)::M)):CW c y Q env L:=by
 refine u0N hL fun x=> ?_;simp only[n2C,List.cons_append,List.nil_append];intro ac w hh;have h1:=hh.sat;have h2:Sat w (m0K (o0Y a by_ o log x.2∧depth≤1000000000)::pts a.log (.cells #[x.1,.int .i64 depth] 154 (0,0))::b0H 1 1 x.1 x.2.length x.2::b0D (Own.cells o)::M):=
  h1.perm (Fnd.there (Fnd.there (Fnd.there Fnd.here)))
 obtain⟨⟨h3,h4⟩,h5⟩:=t0J.1 h2;exact h x.1 x.2 h3 h4 (m1D (h5.perm (Fnd.there Fnd.here))) ac w ⟨hh.size,hh.slots,hh.defers,h5,hh.like⟩
theorem p0P {v:Value} {vals:List Value} (hok:o0Y a by_ o log vals) (hd:depth≤1000000000)
 (hL:a0Z L [pts a.log (.cells #[v,.int .i64 depth] 154 (0,0)),b0H 1 1 v vals.length vals,b0D (Own.cells o)] M) (w:World) (h:Sat w L):Sat w (e0E a by_ o log depth::M):=by
 refine g0X.2 ⟨(v,vals),b0J.2 ?_⟩;have h1:=n0H (p:=o0Y a by_ o log vals∧depth≤1000000000) ⟨hok,hd⟩ w (h.perm hL);exact h1.perm (List.perm_middle (l₁:= [pts a.log (.cells #[v,.int .i64 depth] 154 (0,0)),b0H 1 1 v vals.length vals,b0D (Own.cells o)])).symm
theorem s2O {st:c0P} {v:Value} {cells:List (Nat×Obj)} {w:World} (h:Sat w (b0D (Own.cells o)::b0D (cells.map fun p=>pts p.1 p.2)::M)):Sat w (b0D (Own.cells ((st,v,cells)::o))::M):=by
 have h1:Sat w (b0D (cells.map fun p=>pts p.1 p.2)::b0D (Own.cells o)::M):=h.perm (List.Perm.swap _ _ _);have h2:=b0J.1 h1;have h3:Sat w (b0D (Own.cells o)::((cells.map fun p=>pts p.1 p.2)++M)):=h2.perm List.perm_middle;have h4:=b0J.1 h3;refine b0J.2 ?_;have e:Own.cells ((st,v,cells)::o)=(cells.map fun p=>pts p.1 p.2)++Own.cells o:=by simp[Own.cells]
 rw[e,List.append_assoc];exact h4.perm ((List.append_assoc _ _ _).symm▸(List.perm_append_comm.append_right M).trans (by rw[List.append_assoc]))
theorem t1H {w:World} {e:c0P×Value×List (Nat×Obj)} {b:Nat} {ob:Obj} (he:e∈o) (hb:(b,ob)∈e.2.2) (h:Sat w (e0E a by_ o log depth::M)):w.heap[b]? =some ob:=by
 obtain⟨x,h1⟩:=g0X.1 h;have h2:=b0J.1 h1;simp only[n2C,List.cons_append,List.nil_append]at h2;have h3:Sat w (b0D (Own.cells o)::pts a.log (.cells #[x.1,.int .i64 depth] 154 (0,0))::b0H 1 1 x.1 x.2.length x.2::m0K (o0Y a by_ o log x.2∧depth≤1000000000)::M):=
  h2.perm (Fnd.there (Fnd.there Fnd.here))
 have h4:=b0J.1 h3;have hm:pts b ob∈Own.cells o:=List.mem_map.2 ⟨(b,ob),List.mem_flatMap.2 ⟨e,he,hb⟩,rfl⟩;obtain⟨l1,l2,hl⟩:=List.append_of_mem hm;rw[hl,List.append_assoc,List.cons_append]at h4;exact(h4.perm List.perm_middle).pts
theorem c0B {dd:Option Tmp} {ty:TypeId} {pos:String} {af:Array Edge} {g:Option (Nat×Bool)} {x:Operand} {t et:TypeId} {b k:Nat} {cs:List Value} {e:c0P×Value×List (Nat×Obj)} {v:Value} (ht:f0R c.P t=true) (hx:evo env x=some (.pointer (some ⟨b,k,none⟩)))
 (hL:Fnd L (e0E a by_ o log depth) M) (he:e∈o) (hb:(b,.cells cs.toArray et (0,0))∈e.2.2) (hv:nth cs k=some v):Sl.a0O c ⟨dd,.load t x,ty,pos,af,g⟩ env L v:=
 z0K ht hx hL fun w L' hs=>by
  have:=t1H he hb hs;rw[d0Y]at hv;simp[World.cell?,this,hv]
theorem d1S {dd:Option Tmp} {ty:TypeId} {pos:String} {af:Array Edge} {g:Option (Nat×Bool)} {x:Operand} {t et:TypeId} {b n:Nat} {cs:Array Value} {e:c0P×Value×List (Nat×Obj)} {v:Array Value} (ht:n0X c.P t n=true) (hx:evo env x=some (.pointer (some ⟨b,0,none⟩)))
 (hL:Fnd L (e0E a by_ o log depth) M) (he:e∈o) (hb:(b,.cells cs et (0,0))∈e.2.2) (hn:0+n≤cs.size) (hv:cs.extract 0 (0+n)=v):Sl.a0O c ⟨dd,.load t x,ty,pos,af,g⟩ env L (.agg v):=by
 intro ac w hh;have h1:=t1H he hb (hL.sat hh.sat);subst hv;simp[execOp,hh.eval hx,Instr.loadAt,Instr.sureAddr,loadVar,i0K ht,i0V ht,g0F h1 hn]
end
theorem d2B {a:Ad} {by_:Nat} {o:Own} {log:List c0P} {vals:List Value} {st:c0P} {v:Value} {cells:List (Nat×Obj)} (h:o0Y a by_ o log vals) (hs:r0P a by_ st v cells) (hn:log.length<1000000000):
 o0Y a by_ ((st,v,cells)::o) (log++ [st]) (vals++ [v]):=by
 obtain⟨h1,live,rest,hp,rfl,rfl,hl⟩:=h;refine⟨by simp at hn ⊢;omega,live++ [(st,v,cells)],rest,?_,by simp,by simp,?_⟩
 ·rw[List.append_assoc];exact(List.Perm.cons _ hp).trans List.perm_middle.symm
 ·intro e he;rcases List.mem_append.1 he with he|he
  ·exact hl e he
  ·simp at he;subst he;exact hs
theorem d2C {a:Ad} {by_:Nat} {o:Own} {log:List c0P} {vals:List Value} {e:c0P×Value×List (Nat×Obj)} (h:o0Y a by_ o log vals):o0Y a by_ (e::o) log vals:=
 by
  obtain⟨h1,live,rest,hp,h2,h3,hl⟩:=h;exact⟨h1,live,e::rest,(List.Perm.cons _ hp).trans List.perm_middle.symm,h2,h3,hl⟩
theorem t1I {a:Ad} {by_:Nat} {o:Own} {log:List c0P} {depth:Nat} {M:List a0C} {w:World} {v fv:Value} {vals:List Value} {st:c0P} {cells:List (Nat×Obj)} {F:List a0C} (hok:o0Y a by_ ((st,fv,cells)::o) log vals) (hd:depth≤1000000000)
 (hL:a0Z M [b0D (Own.cells o),b0D (cells.map fun p=>pts p.1 p.2),pts a.log (.cells #[v,.int .i64 depth] 154 (0,0)),b0H 1 1 v vals.length vals] F) (h:Sat w M):Sat w (e0E a by_ ((st,fv,cells)::o) log depth::F):=
 p0P hok hd (a0Z.cons (Fnd.there Fnd.here) (a0Z.cons (Fnd.there Fnd.here) (a0Z.cons Fnd.here a0Z.nil))) w (s2O (h.perm hL))
attribute [local irreducible] Sl.a0O Sl.OW Sl.CW Sl.OS Sl.OM Sl.OMf Sl.KM
theorem d1T (a:Ad) (by_:Nat) (o:Own) (log:List c0P) (depth:Nat) (st:c0P) (f:FuncId) (bb:List Nat) (cells:List (Nat×Obj)) (hs:r0P a by_ st (clo f bb) cells) (hn:log.length<1000000000):
 a0F prog 165 #[ptr a.log,clo f bb] [e0E a by_ o log depth,b0D (cells.map fun p=>pts p.1 p.2)] (a0T (.tuple #[]) [e0E a by_ ((st,clo f bb,cells)::o) (bk depth log st) depth]):=by
 refine en func165 ntmps165 fun R w0=> ?_;refine x0O gFd fun v0 vals hok hdp hv1=> ?_;have hlen:=hok.len;refine go 9 ?_;refine a0P rfl (fun hb8=> ?_) (fun hb8=> ?_)
 ·have hpos:0<depth:=by have:=of_decide_eq_true hb8;omega
  refine go 7 ?_;refine bl fun b15=> ?_;refine(c0Z Tsl.o Ttb.o Zr.o rfl rfl rfl gFd (e0Z Tsl.o (by simp;rfl) (by simp) (by simp[Value.oneCell'])) (by simp only[maxLen];omega) (by omega) (fun v16 hv16=> ?_));refine go 4 ?_;have e:bk depth log st=log++ [st]:=if_pos hpos;rw[e];exact b0G (fun w h=>t1I (vals:=vals++ [clo f bb]) (d2B hok hs hn) hdp (by rw[List.length_append];exact gSp) h) (d0W rfl rfl gSp)
 ·have hpos: ¬0<depth:=by have:=of_decide_eq_false hb8;omega
  refine go 1 ?_;have e:bk depth log st=log:=if_neg hpos;rw[e];exact b0G (fun w h=>t1I (vals:=vals) (d2C hok) hdp gSp h) (d0W rfl rfl gSp)
end
theorem g1M {P:Program} {f:FuncId} {args:Array Value} {A:a0C} {N:List a0C} {Post:Ending→List a0C→Prop} (h:a0F P f args [A,b0D N] Post):a0F P f args (A::N) Post:=by
 intro w F hs;refine h w F ?_;have h1:Sat w (N++(F:: [A])):=hs.perm (by
  show List.Perm (A::(N++ [F])) _;exact((List.perm_append_singleton A (N++ [F])).symm).trans (by simp))
 have h2:=b0J.2 h1;exact h2.perm (by show List.Perm [b0D N,F,A] [A,b0D N,F];exact(List.perm_append_comm (l₁:= [b0D N,F]) (l₂:= [A])))
theorem b1O (a:Ad) (by_:Nat) (o:Own) (log:List c0P) (depth:Nat) (st:c0P) (f:FuncId) {b1 b2:Nat} {o1 o2:Obj} {x y:Nat} (hs:r0P a by_ st (clo f [b1,b2]) [(x,o1),(y,o2)]) (hn:log.length<1000000000):
 a0F prog 165 #[ptr a.log,.func (.func f) #[] #[ptr b1,ptr b2]] [e0E a by_ o log depth,pts x o1,pts y o2] (a0T (.tuple #[]) [e0E a by_ ((st,clo f [b1,b2],[(x,o1),(y,o2)])::o) (bk depth log st) depth]):=
 g1M (d1T a by_ o log depth st f [b1,b2] [(x,o1),(y,o2)] hs hn)
theorem f1O (a:Ad) (by_:Nat) (o:Own) (log:List c0P) (depth:Nat) (st:c0P) (f:FuncId) {b1 b2 b3 b4:Nat} {o1 o2 o3 o4:Obj} {x y z u:Nat} (hs:r0P a by_ st (clo f [b1,b2,b3,b4]) [(x,o1),(y,o2),(z,o3),(u,o4)]) (hn:log.length<1000000000):
 a0F prog 165 #[ptr a.log,.func (.func f) #[] #[ptr b1,ptr b2,ptr b3,ptr b4]] [e0E a by_ o log depth,pts x o1,pts y o2,pts z o3,pts u o4] (a0T (.tuple #[]) [e0E a by_ ((st,clo f [b1,b2,b3,b4],[(x,o1),(y,o2),(z,o3),(u,o4)])::o) (bk depth log st) depth]):=
 g1M (d1T a by_ o log depth st f [b1,b2,b3,b4] [(x,o1),(y,o2),(z,o3),(u,o4)] hs hn)
def c0Y (a:Ad) (by_:Nat) (gv:Value) (keep:Int):List Value:= [ptr a.disk,ptr a.log,ptr a.gr,.map (some a.refs),.map (some by_),gv,.int .i64 keep]
abbrev i0A (a:Ad) (by_:Nat) (gv:Value) (keep:Int):a0C:=pts a.heap (.cells (c0Y a by_ gv keep).toArray 92 (0,0))
def o0J (a:Ad) (next epoch:Int):List Value:= [ptr a.heap,ptr a.maps,.map (some a.vols),.int .u32 next,.int .u32 epoch]
abbrev r0Q (a:Ad) (next epoch:Int):a0C:=pts a.core (.cells (o0J a next epoch).toArray 59 (0,0))
abbrev z0C (a:Ad) (by_:Nat) (o:Own) (log:List c0P) (depth:Nat) (st:c0P) (A:List a0C):Ending→List a0C→Prop:=
 b0N (fun _:c0P×Value×List (Nat×Obj)=>True) (fun _=> .tuple #[]) (fun e=>e0E a by_ (e::o) (bk depth log st) depth::A)
theorem x1E (a:Ad) (by_:Nat) (o:Own) (log:List c0P) (depth:Nat) (gv:Value) (was to_:Int) (hn:log.length<1000000000):
 a0F prog 162 #[ptr a.log,.pointer (some ⟨a.heap,6,none⟩),.int .i64 to_] [e0E a by_ o log depth,i0A a by_ gv was] (z0C a by_ o log depth (.keep was) [i0A a by_ gv to_]):=by
 refine en func162 ntmps162 fun R w0=> ?_
 try simp only[c0Y]
 refine go 2 ?_;refine bx fun b4=> ?_;refine go 7 ?_;refine al fun b6=> ?_;refine go 7 ?_;refine b0U rfl Hb.o rfl (b1O a by_ o log depth (.keep was) _ ⟨_,_,rfl,rfl⟩ hn) gSp ?_;refine ns ?_;refine go 3 ?_;refine a0D (c0B Sc.o rfl gFd List.mem_cons_self (List.mem_cons_of_mem _ List.mem_cons_self) rfl) ?_;refine go 4 ?_;exact fE _ trivial
theorem i0T:v0C prog 3 a0J (fun _=>True):=r1E Tin.o
theorem b1P:v0C prog 47 e0H (fun _=>True):=r1E Tin.o
theorem d1U:v0C prog 44 e0C (fun l=>l.length=32):=m2F F.ka44
theorem tt {α:Type} {m:List α} {p:α→Prop} (h: ∀x,p x): ∀x∈m,p x:=fun x _=>h x
theorem f0J (w:Option Int):(w.map a0J).getD (.int .i64 0)= .int .i64 (w.getD 0):=by cases w<;>rfl
theorem d1V (w:Option Ent):(w.map d0Z).getD (.agg #[.int .u32 0,.int .u32 0,.bool false,.int .i64 0,.int .i64 0,.int .u32 0])= .agg (h0L (w.getD h0T)).toArray:=by cases w<;>rfl
theorem x1F (a:Ad) (by_:Nat) (o:Own) (log:List c0P) (depth:Nat) (was to_ ep:Int) (hn:log.length<1000000000):
 a0F prog 181 #[ptr a.log,.pointer (some ⟨a.core,3,none⟩),.int .u32 to_] [e0E a by_ o log depth,r0Q a was ep] (z0C a by_ o log depth (.next was) [r0Q a to_ ep]):=by
 refine en func181 ntmps181 fun R w0=> ?_
 try simp only[o0J]
 refine go 2 ?_;refine bx fun b4=> ?_;refine go 7 ?_;refine al fun b6=> ?_;refine go 7 ?_;refine b0U rfl Hb.o rfl (b1O a by_ o log depth (.next was) _ ⟨_,_,rfl,rfl⟩ hn) gSp ?_;refine ns ?_;refine go 3 ?_;refine a0D (c0B Sc.o rfl gFd List.mem_cons_self (List.mem_cons_of_mem _ List.mem_cons_self) rfl) ?_;refine go 4 ?_;exact fE _ trivial
theorem p0Q (a:Ad) (by_:Nat) (o:Own) (log:List c0P) (depth:Nat) (mb:Nat) (m:List (Int×Int)) (k v:Int) (st:c0P) (hn:log.length<1000000000)
 (hst: ∀b1 b2 b3 b4,r0P a by_ st (clo 282 [b1,b2,b3,b4]) [d0U b1 89 (.map (some mb)),d0U b2 3 (.int .i64 k),d0U b3 3 (.int .i64 ((a0E k m).getD 0)),d0U b4 4 (.bool (a0E k m).isSome)]):
 a0F prog 248 #[ptr a.log,.map (some mb),.int .i64 k,.int .i64 v] [e0E a by_ o log depth,b0L mb a0J a0J m] (z0C a by_ o log depth st [b0L mb a0J a0J (b0T k v m)]):=by
 refine en func248 ntmps248 fun R w0=> ?_;refine go 2 ?_;refine bx fun b5=> ?_;refine bx fun b6=> ?_;refine go 6 ?_;refine a0D (p0J (ek:=a0J) (ev:=a0J) d0I.o i0T (tt fun _=>trivial) trivial Zr.o rfl rfl gFd f0J) ?_;refine go 3 ?_;refine al fun b8=> ?_;refine al fun b9=> ?_;refine go 8 ?_;refine b0U rfl Hb.o rfl (f1O a by_ o log depth st _ (hst _ _ _ _) hn) gSp ?_;refine ns ?_;refine go 3 ?_;refine a0D (c0B Sc.o rfl gFd List.mem_cons_self List.mem_cons_self rfl) ?_;refine a0D (c0B Sc.o rfl gFd List.mem_cons_self (List.mem_cons_of_mem _ List.mem_cons_self) rfl) ?_;refine go 1 ?_;refine n0G (ek:=a0J) (ev:=a0J) d0I.o i0T (tt fun _=>trivial) trivial rfl rfl rfl gFd ?_;refine go 1 ?_;exact fE _ trivial
theorem q0L (a:Ad) (by_:Nat) (o:Own) (log:List c0P) (depth:Nat) (mb:Nat) (m:List (Int×Int)) (k:Int) (st:c0P) (hn:log.length<1000000000)
 (hst: ∀b1 b2 b3 b4,r0P a by_ st (clo 286 [b1,b2,b3,b4]) [d0U b1 89 (.map (some mb)),d0U b2 3 (.int .i64 k),d0U b3 3 (.int .i64 ((a0E k m).getD 0)),d0U b4 4 (.bool (a0E k m).isSome)]):
 a0F prog 257 #[ptr a.log,.map (some mb),.int .i64 k] [e0E a by_ o log depth,b0L mb a0J a0J m] (z0C a by_ o log depth st [b0L mb a0J a0J (b0C k m)]):=by
 refine en func257 ntmps257 fun R w0=> ?_;refine go 2 ?_;refine bx fun b4=> ?_;refine bx fun b5=> ?_;refine go 6 ?_;refine a0D (p0J (ek:=a0J) (ev:=a0J) d0I.o i0T (tt fun _=>trivial) trivial Zr.o rfl rfl gFd f0J) ?_;refine go 3 ?_;refine al fun b6=> ?_;refine al fun b7=> ?_;refine go 8 ?_;refine b0U rfl Hb.o rfl (f1O a by_ o log depth st _ (hst _ _ _ _) hn) gSp ?_;refine ns ?_;refine go 3 ?_;refine a0D (c0B Sc.o rfl gFd List.mem_cons_self List.mem_cons_self rfl) ?_;refine a0D (c0B Sc.o rfl gFd List.mem_cons_self (List.mem_cons_of_mem _ List.mem_cons_self) rfl) ?_;refine q0B (ek:=a0J) (ev:=a0J) d0I.o i0T (tt fun _=>trivial) trivial rfl rfl gFd ?_;refine go 1 ?_;exact fE _ trivial
theorem x1G (a:Ad) (by_:Nat) (o:Own) (log:List c0P) (depth:Nat) (m:List (B×Int)) (k:B) (v:Int) (hn:log.length<1000000000) (hm: ∀p∈m,p.1.length=32) (hk:k.length=32):
 a0F prog 204 #[ptr a.log,.map (some a.ix),e0C k,.int .i64 v] [e0E a by_ o log depth,b0L a.ix e0C a0J m] (z0C a by_ o log depth (.index k (a0E k m)) [b0L a.ix e0C a0J (b0T k v m)]):=by
 have hsz:(k.map a0Q).toArray.size=32:=by simp[hk]
 refine en func204 ntmps204 fun R w0=> ?_
 try simp only[e0C]
 refine go 2 ?_;refine bx fun b5=> ?_;refine bx fun b6=> ?_;refine go 5 ?_;refine a0D (a0L Ag.o rfl (by simp[Value.cells,hk]) (a0G (by simp[Value.cells,hk]))) ?_;refine a0D (p0J (ek:=e0C) (ev:=a0J) (k:=k) d0I.o d1U hm hk Zr.o rfl rfl gFd f0J) ?_;refine go 3 ?_;refine al fun b8=> ?_;refine al fun b9=> ?_;refine go 8 ?_;refine b0U rfl Hb.o rfl (f1O a by_ o log depth (.index k (a0E k m)) _ ⟨hk,_,_,_,_,.inl rfl,rfl⟩ hn) gSp ?_;refine ns ?_;refine go 3 ?_;refine a0D (c0B Sc.o rfl gFd List.mem_cons_self List.mem_cons_self rfl) ?_;refine a0D (d1S Ag.o rfl gFd List.mem_cons_self (List.mem_cons_of_mem _ List.mem_cons_self) (by simp[hk]) (a0G (by simp[hk]))) ?_;refine go 1 ?_;refine n0G (ek:=e0C) (ev:=a0J) (k:=k) d0I.o d1U hm hk rfl rfl rfl gFd ?_;refine go 1 ?_;exact fE _ trivial
theorem t1J (a:Ad) (by_:Nat) (o:Own) (log:List c0P) (depth:Nat) (m:List (B×Int)) (k:B) (hn:log.length<1000000000) (hm: ∀p∈m,p.1.length=32) (hk:k.length=32):
 a0F prog 241 #[ptr a.log,.map (some a.ix),e0C k] [e0E a by_ o log depth,b0L a.ix e0C a0J m] (z0C a by_ o log depth (.index k (a0E k m)) [b0L a.ix e0C a0J (b0C k m)]):=by
 have hsz:(k.map a0Q).toArray.size=32:=by simp[hk]
 refine en func241 ntmps241 fun R w0=> ?_
 try simp only[e0C]
 refine go 2 ?_;refine bx fun b4=> ?_;refine bx fun b5=> ?_;refine go 5 ?_;refine a0D (a0L Ag.o rfl (by simp[Value.cells,hk]) (a0G (by simp[Value.cells,hk]))) ?_;refine a0D (p0J (ek:=e0C) (ev:=a0J) (k:=k) d0I.o d1U hm hk Zr.o rfl rfl gFd f0J) ?_;refine go 3 ?_;refine al fun b6=> ?_;refine al fun b7=> ?_;refine go 8 ?_;refine b0U rfl Hb.o rfl (f1O a by_ o log depth (.index k (a0E k m)) _ ⟨hk,_,_,_,_,.inr rfl,rfl⟩ hn) gSp ?_;refine ns ?_;refine go 3 ?_;refine a0D (c0B Sc.o rfl gFd List.mem_cons_self List.mem_cons_self rfl) ?_;refine a0D (d1S Ag.o rfl gFd List.mem_cons_self (List.mem_cons_of_mem _ List.mem_cons_self) (by simp[hk]) (a0G (by simp[hk]))) ?_;refine q0B (ek:=e0C) (ev:=a0J) (k:=k) d0I.o d1U hm hk rfl rfl gFd ?_;refine go 1 ?_;exact fE _ trivial
theorem x1H (a:Ad) (by_:Nat) (o:Own) (log:List c0P) (depth:Nat) (m:List (Int×Ent)) (k:Int) (v:Ent) (hn:log.length<1000000000):
 a0F prog 119 #[ptr a.log,.map (some a.vols),.int .u32 k,d0Z v] [e0E a by_ o log depth,b0L a.vols e0H d0Z m] (z0C a by_ o log depth (.vols k (a0E k m)) [b0L a.vols e0H d0Z (b0T k v m)]):=by
 refine en func119 ntmps119 fun R w0=> ?_
 try simp only[d0Z]
 refine go 2 ?_;refine bx fun b5=> ?_;refine bx fun b6=> ?_;refine bx fun b7=> ?_;refine go 6 ?_;refine a0D (p0J (ek:=e0H) (ev:=d0Z) (k:=k) d0I.o b1P (tt fun _=>trivial) trivial Zr.o rfl rfl gFd d1V) ?_;refine go 3 ?_;refine al fun b8=> ?_;refine al fun b9=> ?_;refine go 8 ?_;refine b0U rfl Hb.o rfl (f1O a by_ o log depth (.vols k (a0E k m)) _ ⟨_,_,_,_,.inl rfl,rfl⟩ hn) gSp ?_;refine ns ?_;refine go 3 ?_;refine a0D (c0B Sc.o rfl gFd List.mem_cons_self List.mem_cons_self rfl) ?_;refine a0D (c0B Sc.o rfl gFd List.mem_cons_self (List.mem_cons_of_mem _ List.mem_cons_self) rfl) ?_;refine go 1 ?_;refine n0G (ek:=e0H) (ev:=d0Z) (k:=k) (v:=v) d0I.o b1P (tt fun _=>trivial) trivial rfl rfl rfl gFd ?_;refine go 1 ?_;exact fE _ trivial
theorem t1K (a:Ad) (by_:Nat) (o:Own) (log:List c0P) (depth:Nat) (m:List (Int×Ent)) (k:Int) (hn:log.length<1000000000):
 a0F prog 123 #[ptr a.log,.map (some a.vols),.int .u32 k] [e0E a by_ o log depth,b0L a.vols e0H d0Z m] (z0C a by_ o log depth (.vols k (a0E k m)) [b0L a.vols e0H d0Z (b0C k m)]):=by
 refine en func123 ntmps123 fun R w0=> ?_;refine go 2 ?_;refine bx fun b4=> ?_;refine bx fun b5=> ?_;refine go 6 ?_;refine a0D (p0J (ek:=e0H) (ev:=d0Z) (k:=k) d0I.o b1P (tt fun _=>trivial) trivial Zr.o rfl rfl gFd d1V) ?_;refine go 3 ?_;refine al fun b6=> ?_;refine al fun b7=> ?_;refine go 8 ?_;refine b0U rfl Hb.o rfl (f1O a by_ o log depth (.vols k (a0E k m)) _ ⟨_,_,_,_,.inr rfl,rfl⟩ hn) gSp ?_;refine ns ?_;refine go 3 ?_;refine a0D (c0B Sc.o rfl gFd List.mem_cons_self List.mem_cons_self rfl) ?_;refine a0D (c0B Sc.o rfl gFd List.mem_cons_self (List.mem_cons_of_mem _ List.mem_cons_self) rfl) ?_;refine q0B (ek:=e0H) (ev:=d0Z) (k:=k) d0I.o b1P (tt fun _=>trivial) trivial rfl rfl gFd ?_;refine go 1 ?_;exact fE _ trivial
theorem x1I (a:Ad) (by_:Nat) (o:Own) (log:List c0P) (depth:Nat) (gv to_:Value) (keep:Int) (was:List Int) (gc:List (Nat×Obj)) (hn:log.length<1000000000) (hg:m0T gv was gc) (hto:to_.oneCell'=true):
 a0F prog 260 #[ptr a.log,.pointer (some ⟨a.heap,5,none⟩),to_] [e0E a by_ o log depth,i0A a by_ gv keep,b0D (gc.map fun p=>pts p.1 p.2)] (z0C a by_ o log depth (.gone was) [i0A a by_ to_ keep]):=by
 have hgv:gv.oneCell'=true:=by rcases hg with ⟨_,⟨_,rfl,_⟩| ⟨_,_,_,rfl,_⟩⟩<;>rfl
 have hb: ∀b1 b2,a0F prog 165 #[ptr a.log,.func (.func 287) #[] #[ptr b1,ptr b2]] [e0E a by_ o log depth,pts b1 (.cells #[gv] 90 (0,0)),pts b2 (.cells #[.pointer (some ⟨a.heap,5,none⟩)] 319 (0,0)),b0D (gc.map fun p=>pts p.1 p.2)]
  (a0T (.tuple #[]) [e0E a by_ ((.gone was,clo 287 [b1,b2],d0U b1 90 gv::d0U b2 319 (.pointer (some ⟨a.heap,5,none⟩))::gc)::o) (bk depth log (.gone was)) depth]):=by
  intro b1 b2 w F hs;refine d1T a by_ o log depth (.gone was) _ [b1,b2] (d0U b1 90 gv::d0U b2 319 (.pointer (some ⟨a.heap,5,none⟩))::gc) ⟨b1,b2,gv,gc,rfl,rfl,hg⟩ hn w F ?_;simp only[List.cons_append,List.nil_append]at hs;have h1:Sat w ([b0D (gc.map fun p=>pts p.1 p.2),F,pts b1 (.cells #[gv] 90 (0,0)),pts b2 (.cells #[.pointer (some ⟨a.heap,5,none⟩)] 319 (0,0)),e0E a by_ o log depth]++ []):=hs.perm (show a0Z _ _ _ from gSp);have h2:=(b0J.1 h1).perm List.perm_append_comm
  try simp only[List.cons_append,List.nil_append]at h2
  have h3:Sat w ([pts b1 (.cells #[gv] 90 (0,0)),pts b2 (.cells #[.pointer (some ⟨a.heap,5,none⟩)] 319 (0,0))]++(F::e0E a by_ o log depth::(gc.map fun p=>pts p.1 p.2))):=h2.perm (show a0Z _ _ _ from gSp);have h4:Sat w (((d0U b1 90 gv::d0U b2 319 (.pointer (some ⟨a.heap,5,none⟩))::gc).map fun p=>pts p.1 p.2)++ [F,e0E a by_ o log depth]):=by
   simp only[List.map_cons,List.cons_append];refine h3.perm (List.Perm.cons _ (List.Perm.cons _ ?_));exact List.perm_append_comm (l₁:= [F,e0E a by_ o log depth])
  exact(b0J.2 h4).perm (by show a0Z _ [_,_,_] [];exact gSp)
 refine en func260 ntmps260 fun R w0=> ?_
 try simp only[c0Y]
 refine go 2 ?_;refine bx fun b4=> ?_;refine go 6 ?_;skip;refine go 1 ?_;refine al fun b6=> ?_;refine(d0P Sz.o rfl rfl hgv (by rfl) (by rfl) ?_);refine go 6 ?_;refine b0U rfl Hb.o rfl (hb _ _) gSp ?_;refine ns ?_;refine go 3 ?_;refine a0D (c0B Sc.o rfl gFd List.mem_cons_self (List.mem_cons_of_mem _ List.mem_cons_self) rfl) ?_;refine go 2 ?_;refine(d0P Sz.o rfl rfl hto (by rfl) (by rfl) ?_);refine go 1 ?_;exact fE _ trivial
theorem x0P {k:Int} (h:inR k=true): -9223372036854775808≤k∧k≤9223372036854775807:=by simpa [inR] using h
theorem d1W (mb:Nat) (m:List (Int×Int)) (k:Int) (w:Option Int):a0F prog 283 #[.map (some mb),.int .i64 k,.int .i64 (w.getD 0),.bool w.isSome] [b0L mb a0J a0J m] (a0T (.tuple #[]) [b0L mb a0J a0J (f0G k w m)]):=by
 cases w with
 |none=>
  refine en func283 ntmps283 fun R w0=> ?_
  try simp only[Option.getD_none,Option.isSome_none]
  refine go 12 ?_;refine(q0B (ek:=a0J) (ev:=a0J) d0I.o i0T (tt fun _=>trivial) trivial rfl rfl gFd ?_);refine go 2 ?_;exact rG
 |some v=>
  refine en func283 ntmps283 fun R w0=> ?_
  try simp only[Option.getD_some,Option.isSome_some]
  refine go 14 ?_;refine(n0G (ek:=a0J) (ev:=a0J) d0I.o i0T (tt fun _=>trivial) trivial rfl rfl rfl gFd ?_);refine go 1 ?_;refine d0W rfl rfl gSp
theorem d1X (mb:Nat) (m:List (B×Int)) (k:B) (w:Option Int) (hm: ∀p∈m,p.1.length=32) (hk:k.length=32):a0F prog 254 #[.map (some mb),e0C k,.int .i64 (w.getD 0),.bool w.isSome] [b0L mb e0C a0J m] (a0T (.tuple #[]) [b0L mb e0C a0J (f0G k w m)]):=by
 cases w with
 |none=>
  refine en func254 ntmps254 fun R w0=> ?_
  try simp only[Option.getD_none,Option.isSome_none]
  refine go 2 ?_;refine bx fun b5=> ?_;refine go 13 ?_;refine a0D (a0L Ag.o rfl (by simp[e0C,Value.cells,hk]) (a0G (by simp[e0C,Value.cells,hk]))) ?_;refine(q0B (ek:=e0C) (ev:=a0J) d0I.o d1U hm hk rfl rfl gFd ?_);refine go 2 ?_;exact rG
 |some v=>
  refine en func254 ntmps254 fun R w0=> ?_
  try simp only[Option.getD_some,Option.isSome_some]
  refine go 2 ?_;refine bx fun b5=> ?_;refine go 14 ?_;refine a0D (a0L Ag.o rfl (by simp[e0C,Value.cells,hk]) (a0G (by simp[e0C,Value.cells,hk]))) ?_;refine go 1 ?_;refine(n0G (ek:=e0C) (ev:=a0J) d0I.o d1U hm hk rfl rfl rfl gFd ?_);refine go 1 ?_;refine d0W rfl rfl gSp
theorem d1Y (mb:Nat) (m:List (Int×Ent)) (k:Int) (w:Option Ent):a0F prog 167 #[.map (some mb),.int .u32 k,d0Z (w.getD h0T),.bool w.isSome] [b0L mb e0H d0Z m] (a0T (.tuple #[]) [b0L mb e0H d0Z (f0G k w m)]):=by
 cases w with
 |none=>
  refine en func167 ntmps167 fun R w0=> ?_
  try simp only[Option.getD_none,Option.isSome_none]
  refine go 2 ?_;refine bx fun b6=> ?_;refine go 14 ?_;refine(q0B (ek:=e0H) (ev:=d0Z) d0I.o b1P (tt fun _=>trivial) trivial rfl rfl gFd ?_);refine go 2 ?_;exact rG
 |some v=>
  refine en func167 ntmps167 fun R w0=> ?_
  try simp only[Option.getD_some,Option.isSome_some]
  refine go 2 ?_;refine bx fun b6=> ?_;refine go 16 ?_;refine(n0G (ek:=e0H) (ev:=d0Z) d0I.o b1P (tt fun _=>trivial) trivial rfl rfl rfl gFd ?_);refine go 1 ?_;refine d0W rfl rfl gSp
abbrev cel (b:Nat) (t:TypeId) (v:Value):a0C:=pts b (.cells #[v] t (0,0))
abbrev d2D (b1 b2 b3 b4 mb:Nat) (k:Int) (w:Option Int):List a0C:= [cel b1 89 (.map (some mb)),cel b2 3 (.int .i64 k),cel b3 3 (.int .i64 (w.getD 0)),cel b4 4 (.bool w.isSome)]
abbrev d2E (b1 b2 b3 b4 mb:Nat) (k:B) (w:Option Int):List a0C:= [cel b1 208 (.map (some mb)),pts b2 (.cells (k.map a0Q).toArray 44 (0,0)),cel b3 3 (.int .i64 (w.getD 0)),cel b4 4 (.bool w.isSome)]
abbrev d2F (b1 b2 b3 b4 mb:Nat) (k:Int) (w:Option Ent):List a0C:= [cel b1 57 (.map (some mb)),cel b2 47 (.int .u32 k),pts b3 (.cells (h0L (w.getD h0T)).toArray 50 (0,0)),cel b4 4 (.bool w.isSome)]
theorem z1Z (b1 b2 b3 b4 mb:Nat) (m:List (Int×Int)) (k:Int) (w:Option Int):a0F prog 282 #[ptr b1,ptr b2,ptr b3,ptr b4] (d2D b1 b2 b3 b4 mb k w++ [b0L mb a0J a0J m]) (a0T (.tuple #[]) (d2D b1 b2 b3 b4 mb k w++ [b0L mb a0J a0J (f0G k w m)])):=by
 refine en func282 ntmps282 fun R w0=> ?_;refine cg 5 (d1W mb m k w) ?_;refine go 1 ?_;refine d0W rfl rfl gSp
theorem t1L (b1 b2 b3 b4 mb:Nat) (m:List (Int×Int)) (k:Int) (w:Option Int):a0F prog 286 #[ptr b1,ptr b2,ptr b3,ptr b4] (d2D b1 b2 b3 b4 mb k w++ [b0L mb a0J a0J m]) (a0T (.tuple #[]) (d2D b1 b2 b3 b4 mb k w++ [b0L mb a0J a0J (f0G k w m)])):=by
 refine en func286 ntmps286 fun R w0=> ?_;refine cg 5 (d1W mb m k w) ?_;refine go 1 ?_;refine d0W rfl rfl gSp
theorem s2P (b1 b2 b3 b4 mb:Nat) (m:List (B×Int)) (k:B) (w:Option Int) (hm: ∀p∈m,p.1.length=32) (hk:k.length=32):a0F prog 253 #[ptr b1,ptr b2,ptr b3,ptr b4] (d2E b1 b2 b3 b4 mb k w++ [b0L mb e0C a0J m]) (a0T (.tuple #[]) (d2E b1 b2 b3 b4 mb k w++ [b0L mb e0C a0J (f0G k w m)])):=by
 refine en func253 ntmps253 fun R w0=> ?_;refine go 2 ?_;refine a0D (a0L Ag.o rfl (by simp[hk]) (a0G (by simp[hk]))) ?_;refine cg 2 (d1X mb m k w hm hk) ?_;refine go 1 ?_;refine d0W rfl rfl gSp
theorem n2D (b1 b2 b3 b4 mb:Nat) (m:List (B×Int)) (k:B) (w:Option Int) (hm: ∀p∈m,p.1.length=32) (hk:k.length=32):a0F prog 279 #[ptr b1,ptr b2,ptr b3,ptr b4] (d2E b1 b2 b3 b4 mb k w++ [b0L mb e0C a0J m]) (a0T (.tuple #[]) (d2E b1 b2 b3 b4 mb k w++ [b0L mb e0C a0J (f0G k w m)])):=by
 refine en func279 ntmps279 fun R w0=> ?_;refine go 2 ?_;refine a0D (a0L Ag.o rfl (by simp[hk]) (a0G (by simp[hk]))) ?_;refine cg 2 (d1X mb m k w hm hk) ?_;refine go 1 ?_;refine d0W rfl rfl gSp
theorem s2Q (b1 b2 b3 b4 mb:Nat) (m:List (Int×Ent)) (k:Int) (w:Option Ent):a0F prog 166 #[ptr b1,ptr b2,ptr b3,ptr b4] (d2F b1 b2 b3 b4 mb k w++ [b0L mb e0H d0Z m]) (a0T (.tuple #[]) (d2F b1 b2 b3 b4 mb k w++ [b0L mb e0H d0Z (f0G k w m)])):=by
 refine en func166 ntmps166 fun R w0=> ?_;refine cg 5 (d1Y mb m k w) ?_;refine go 1 ?_;refine d0W rfl rfl gSp
theorem n2E (b1 b2 b3 b4 mb:Nat) (m:List (Int×Ent)) (k:Int) (w:Option Ent):a0F prog 169 #[ptr b1,ptr b2,ptr b3,ptr b4] (d2F b1 b2 b3 b4 mb k w++ [b0L mb e0H d0Z m]) (a0T (.tuple #[]) (d2F b1 b2 b3 b4 mb k w++ [b0L mb e0H d0Z (f0G k w m)])):=by
 refine en func169 ntmps169 fun R w0=> ?_;refine cg 5 (d1Y mb m k w) ?_;refine go 1 ?_;refine d0W rfl rfl gSp
theorem s2R (a:Ad) (by_ b1 b2:Nat) (gv:Value) (w keep:Int):a0F prog 195 #[ptr b1,ptr b2] [cel b1 3 (.int .i64 w),cel b2 236 (.pointer (some ⟨a.heap,6,none⟩)),i0A a by_ gv keep] (a0T (.tuple #[]) [i0A a by_ gv w]):=by
 refine en func195 ntmps195 fun R w0=> ?_
 try simp only[c0Y]
 refine go 6 ?_;refine d0W rfl rfl gSp
theorem s2S (a:Ad) (b1 b2:Nat) (w next ep:Int):a0F prog 221 #[ptr b1,ptr b2] [cel b1 47 (.int .u32 w),cel b2 256 (.pointer (some ⟨a.core,3,none⟩)),r0Q a next ep] (a0T (.tuple #[]) [r0Q a w ep]):=by
 refine en func221 ntmps221 fun R w0=> ?_
 try simp only[o0J]
 refine go 6 ?_;refine d0W rfl rfl gSp
theorem s2T (a:Ad) (by_ b1 b2:Nat) (gv x:Value) (keep:Int) (hx:x.oneCell'=true):a0F prog 287 #[ptr b1,ptr b2] [cel b1 90 x,cel b2 319 (.pointer (some ⟨a.heap,5,none⟩)),i0A a by_ gv keep] (a0T (.tuple #[]) [i0A a by_ x keep]):=by
 refine en func287 ntmps287 fun R w0=> ?_
 try simp only[c0Y]
 refine go 4 ?_;refine(d0P Sz.o rfl rfl hx (by rfl) (by rfl) ?_);refine go 1 ?_;refine d0W rfl rfl gSp
theorem x2U (a:Ad) (by_ b1 b2:Nat) (gv:Value) (keep k:Int) (fr:Nat) (g:List Nat) (hk:inR k=true) (hfr:fr≤5000) (hl:g.length≤5000):a0F prog 284 #[ptr b1,ptr b2] ([cel b1 55 (ptr a.heap),cel b2 3 (.int .i64 k),i0A a by_ gv keep]++gm a.gr a.grl fr g) (a0T (.tuple #[]) ([i0A a by_ gv keep]++gm a.gr a.grl fr (mvL fr g k 1 0))):=by
 refine en func284 ntmps284 fun R w0=> ?_
 try simp only[c0Y]
 refine tl 5 ?_;refine cg 6 (k1Q a.gr a.grl fr g k (x0P hk) hfr hl) ?_;refine go 1 ?_;refine d0W rfl rfl gSp
theorem x2V (a:Ad) (by_ b1 b2:Nat) (gv:Value) (keep k:Int) (fr:Nat) (g:List Nat) (hk:inR k=true) (hfr:fr≤5000) (hl:g.length≤5000):a0F prog 259 #[ptr b1,ptr b2] ([cel b1 55 (ptr a.heap),cel b2 3 (.int .i64 k),i0A a by_ gv keep]++gm a.gr a.grl fr g) (a0T (.tuple #[]) ([i0A a by_ gv keep]++gm a.gr a.grl fr (mvL fr g k 2 1))):=by
 refine en func259 ntmps259 fun R w0=> ?_
 try simp only[c0Y]
 refine tl 5 ?_;refine cg 6 (k1R a.gr a.grl fr g k (x0P hk) hfr hl) ?_;refine go 1 ?_;refine d0W rfl rfl gSp
def n0W (s:St):Prop:=s.fr≤5000∧s.g.length≤5000∧(∀x∈s.g,x<3)∧ ∀p∈s.index,p.1.length=32
abbrev h0O (c:List (Nat×Obj)):List a0C:=c.map fun p=>pts p.1 p.2
abbrev TT (a:Ad) (by_:Nat) (gv:Value) (gc:List (Nat×Obj)) (s:St):List a0C:= [i0A a by_ gv s.keep,b0D (h0O gc),b0L by_ a0J a0J s.young,b0L a.refs a0J a0J s.refs,b0L a.ix e0C a0J s.index,b0L a.vols e0H d0Z s.vols,r0Q a s.next s.epoch,
 pts a.gr (.cells (l0F s.fr a.grl s.g).toArray 192 (0,0)),pts a.grl (.cells (s.g.map gst).toArray 3 (0,0))]
theorem w0N (fr:Nat) (l:List Nat) (x:Int) (k t:Nat):(mvL fr l x k t).length=l.length:=by unfold mvL;split<;>simp
theorem w0O {fr:Nat} {l:List Nat} {x:Int} {k t:Nat} (ht:t<3) (hl: ∀y∈l,y<3): ∀y∈mvL fr l x k t,y<3:=by
 intro y hy;unfold mvL at hy;split at hy
 ·rcases List.mem_or_eq_of_mem_set hy with h|rfl
  ·exact hl y h
  ·exact ht
 ·exact hl y hy
theorem t1M {K V:Type} [DecidableEq K] {k:K} {v:V} : ∀ {m:List (K×V)} {p:K×V},p∈b0T k v m→p=(k,v)∨p∈m
 | [],p,h=>by simp[b0T]at h;exact .inl h
 | (j,u)::m,p,h=>by
  unfold b0T at h;split at h
  ·rcases List.mem_cons.1 h with h|h
   ·exact .inl h
   ·exact .inr (List.mem_cons_of_mem _ h)
  ·rcases List.mem_cons.1 h with h|h
   ·exact .inr (by simp[h])
   ·rcases t1M h with h|h
    ·exact .inl h
    ·exact .inr (List.mem_cons_of_mem _ h)
theorem t1N {K V:Type} [DecidableEq K] {k:K} : ∀ {m:List (K×V)} {p:K×V},p∈b0C k m→p∈m
 | [],p,h=>by simp[b0C]at h
 | (j,u)::m,p,h=>by
  unfold b0C at h;split at h
  ·exact List.mem_cons_of_mem _ h
  ·rcases List.mem_cons.1 h with h|h
   ·simp[h]
   ·exact List.mem_cons_of_mem _ (t1N h)
theorem n2F {a:Ad} {by_:Nat} {st:c0P} {v:Value} {c:List (Nat×Obj)} (h:r0P a by_ st v c) {s:St} (hs:n0W s):n0W (n0Z st s):=by
 obtain⟨h1,h2,h3,h4⟩:=hs;cases st with
 |give k=>exact⟨h1,by simpa [n0Z,w0N] using h2,w0O (by omega) h3,h4⟩
 |back k=>exact⟨h1,by simpa [n0Z,w0N] using h2,w0O (by omega) h3,h4⟩
 |index k w=>
  refine⟨h1,h2,h3,fun p hp=> ?_⟩;simp only[n0Z,Sb.f0G]at hp;split at hp
  ·rcases t1M hp with rfl|hp
   ·exact h.1
   ·exact h4 p hp
  ·exact h4 p (t1N hp)
 |_=>exact⟨h1,h2,h3,h4⟩
theorem n2G (a:Ad) (by_:Nat) (gv:Value) (gc:List (Nat×Obj)) (s:St) (st:c0P) (v:Value) (c:List (Nat×Obj)) (hs:r0P a by_ st v c) (hg:m0T gv s.gone gc) (hok:n0W s):
 ∃f bb,v=clo f bb∧e0Y prog f=true∧a0F prog f (bb.map ptr).toArray (b0D (h0O c)::TT a by_ gv gc s)
  (b0N (fun x:Value×List (Nat×Obj)=>m0T x.1 (n0Z st s).gone x.2∧n0W (n0Z st s)) (fun _=> .tuple #[]) (fun x=>TT a by_ x.1 x.2 (n0Z st s))):=by
 have hok':=n2F hs hok;cases st with
 |give k=>
  obtain⟨hk,b1,b2,rfl,rfl⟩:=hs;refine⟨_,[b1,b2],rfl,Hb.o,f0U (gv,gc) ⟨hg,hok'⟩ rfl rfl (k0B ?_)⟩;exact i0Z (x2U a by_ b1 b2 gv s.keep k s.fr s.g hk hok.1 hok.2.1) gSp gSp
 |back k=>
  obtain⟨hk,b1,b2,rfl,rfl⟩:=hs;refine⟨_,[b1,b2],rfl,Hb.o,f0U (gv,gc) ⟨hg,hok'⟩ rfl rfl (k0B ?_)⟩;exact i0Z (x2V a by_ b1 b2 gv s.keep k s.fr s.g hk hok.1 hok.2.1) gSp gSp
 |keep w=>
  obtain⟨b1,b2,rfl,rfl⟩:=hs;refine⟨_,[b1,b2],rfl,Hb.o,f0U (gv,gc) ⟨hg,hok'⟩ rfl rfl (k0B ?_)⟩;exact i0Z (s2R a by_ b1 b2 gv w s.keep) gSp gSp
 |next w=>
  obtain⟨b1,b2,rfl,rfl⟩:=hs;refine⟨_,[b1,b2],rfl,Hb.o,f0U (gv,gc) ⟨hg,hok'⟩ rfl rfl (k0B ?_)⟩;exact i0Z (s2S a b1 b2 w s.next s.epoch) gSp gSp
 |gone w=>
  obtain⟨b1,b2,x,b3,rfl,rfl,hx⟩:=hs;have hx1:x.oneCell'=true:=by rcases hx with ⟨_,⟨_,rfl,_⟩| ⟨_,_,_,rfl,_⟩⟩<;>rfl
  refine⟨_,[b1,b2],rfl,Hb.o,f0U (x,b3) ⟨hx,hok'⟩ rfl rfl (h1I (Pre:=cel b1 90 x::cel b2 319 (.pointer (some ⟨a.heap,5,none⟩))::b0D (h0O b3)::TT a by_ gv gc s) (fun w F h=> ?_) ?_)⟩
  ·have h0:Sat w (b0D (h0O (d0U b1 90 x::d0U b2 319 (.pointer (some ⟨a.heap,5,none⟩))::b3))::(TT a by_ gv gc s++F)):=h;have h1:=b0J.1 h0;have h1':Sat w ([cel b1 90 x,cel b2 319 (.pointer (some ⟨a.heap,5,none⟩))]++(h0O b3++(TT a by_ gv gc s++F))):=h1;have h2:=h1'.perm List.perm_append_comm;rw[List.append_assoc]at h2;have h3:=(b0J.2 h2).perm (List.perm_append_comm (l₁:=b0D (h0O b3)::(TT a by_ gv gc s++F)) (l₂:= [cel b1 90 x,cel b2 319 (.pointer (some ⟨a.heap,5,none⟩))]));exact h3
  ·exact i0Z (s2T a by_ b1 b2 gv x s.keep hx1) gSp gSp
 |refs k w=>
  obtain⟨b1,b2,b3,b4,hv,rfl⟩:=hs;rcases hv with rfl|rfl
  ·refine⟨_,[b1,b2,b3,b4],rfl,Hb.o,f0U (gv,gc) ⟨hg,hok'⟩ rfl rfl (k0B ?_)⟩;exact i0Z (z1Z b1 b2 b3 b4 a.refs s.refs k w) gSp gSp
  ·refine⟨_,[b1,b2,b3,b4],rfl,Hb.o,f0U (gv,gc) ⟨hg,hok'⟩ rfl rfl (k0B ?_)⟩;exact i0Z (t1L b1 b2 b3 b4 a.refs s.refs k w) gSp gSp
 |young k w=>
  obtain⟨b1,b2,b3,b4,hv,rfl⟩:=hs;rcases hv with rfl|rfl
  ·refine⟨_,[b1,b2,b3,b4],rfl,Hb.o,f0U (gv,gc) ⟨hg,hok'⟩ rfl rfl (k0B ?_)⟩;exact i0Z (z1Z b1 b2 b3 b4 by_ s.young k w) gSp gSp
  ·refine⟨_,[b1,b2,b3,b4],rfl,Hb.o,f0U (gv,gc) ⟨hg,hok'⟩ rfl rfl (k0B ?_)⟩;exact i0Z (t1L b1 b2 b3 b4 by_ s.young k w) gSp gSp
 |index k w=>
  obtain⟨hk,b1,b2,b3,b4,hv,rfl⟩:=hs;rcases hv with rfl|rfl
  ·refine⟨_,[b1,b2,b3,b4],rfl,Hb.o,f0U (gv,gc) ⟨hg,hok'⟩ rfl rfl (k0B ?_)⟩;exact i0Z (s2P b1 b2 b3 b4 a.ix s.index k w hok.2.2.2 hk) gSp gSp
  ·refine⟨_,[b1,b2,b3,b4],rfl,Hb.o,f0U (gv,gc) ⟨hg,hok'⟩ rfl rfl (k0B ?_)⟩;exact i0Z (n2D b1 b2 b3 b4 a.ix s.index k w hok.2.2.2 hk) gSp gSp
 |vols k w=>
  obtain⟨b1,b2,b3,b4,hv,rfl⟩:=hs;rcases hv with rfl|rfl
  ·refine⟨_,[b1,b2,b3,b4],rfl,Hb.o,f0U (gv,gc) ⟨hg,hok'⟩ rfl rfl (k0B ?_)⟩;exact i0Z (s2Q b1 b2 b3 b4 a.vols s.vols k w) gSp gSp
  ·refine⟨_,[b1,b2,b3,b4],rfl,Hb.o,f0U (gv,gc) ⟨hg,hok'⟩ rfl rfl (k0B ?_)⟩;exact i0Z (n2E b1 b2 b3 b4 a.vols s.vols k w) gSp gSp
theorem d2G {a:Ad} {by_:Nat} {o:Own} {log:List c0P} {vals:List Value} {n:Nat} (h:o0Y a by_ o log vals) (hn:log.length=n+1):
 ∃(vals':List Value) (e:c0P×Value×List (Nat×Obj)) (o':Own),vals=vals'++ [e.2.1]∧vals'.length=n∧o.Perm (e::o')∧r0P a by_ e.1 e.2.1 e.2.2∧log.drop n= [e.1]∧o0Y a by_ o' (log.take n) vals':=by
 obtain⟨h1,live,rest,hp,rfl,rfl,hl⟩:=h;have hlen:live.length=n+1:=by simpa using hn
 obtain⟨l',e,rfl⟩: ∃l' e,live=l'++ [e]:=⟨live.dropLast,live.getLast (by intro h;simp[h]at hlen),(List.dropLast_concat_getLast _).symm⟩;have hl':l'.length=n:=by simpa using hlen
 refine⟨l'.map (·.2.1),e,l'++rest,by simp,by simpa using hl',?_,hl e (by simp),?_,?_⟩
 ·refine hp.trans ?_;rw[List.append_assoc];exact List.perm_middle
 ·simp[←hl']
 ·refine⟨by simp at h1 ⊢;omega,l',rest,List.Perm.refl _,?_,rfl,fun e' he=>hl e' (by simp[he])⟩;rw[List.map_append,←hl',List.take_left' (by simp)]
theorem s2U {o o':Own} {e:c0P×Value×List (Nat×Obj)} {L M:List a0C} (hp:o.Perm (e::o')) (hL:Fnd L (b0D (Own.cells o)) M) (w:World) (h:Sat w L):Sat w (b0D (h0O e.2.2)::b0D (Own.cells o')::M):=by
 have h1:=b0J.1 (hL.sat h);have h2:(Own.cells o).Perm (h0O e.2.2++Own.cells o'):=by
  have:=(hp.flatMap_right (fun x=>x.2.2)).map (fun p:Nat×Obj=>pts p.1 p.2);simpa [Own.cells,h0O] using this
 have h3:Sat w (h0O e.2.2++(Own.cells o'++M)):=h1.perm ((h2.append_right M).trans (by rw[List.append_assoc]));have h4:Sat w (Own.cells o'++(b0D (h0O e.2.2)::M)):=(b0J.2 h3).perm List.perm_middle.symm;exact(b0J.2 h4).perm (List.Perm.swap _ _ _)
theorem d1Z (s:St): ∀l,(e0I s l).log=s.log∧(e0I s l).depth=s.depth
 | []=>⟨rfl,rfl⟩
 |st::l=>by
  have:=d1Z s l;cases st<;>exact this
theorem i2A {l:List c0P} {k n:Nat} {e:c0P} (hk:k=n+1) (hl:(l.take k).drop n= [e]):l.drop n=e::l.drop k:=by
 subst hk;have h1:(l.take (n+1))++l.drop (n+1)=l:=List.take_append_drop _ _;have h2:n≤(l.take (n+1)).length:=by
  rcases Nat.lt_or_ge (l.take (n+1)).length n with h|h
  ·rw[List.drop_eq_nil_of_le (by omega)]at hl;cases hl
  ·exact h
 conv=>lhs;rw[←h1]
 rw[List.drop_append_of_le_length h2,hl];rfl
theorem s2V (a:Ad) (by_:Nat) (gv0:Value) (gc0:List (Nat×Obj)) (o0:Own) (s:St) (h0Q:Nat) (hg0:m0T gv0 s.gone gc0) (hok0:n0W s):
 a0F prog 148 #[ptr a.log,.int .i64 h0Q] (e0E a by_ o0 s.log s.depth::TT a by_ gv0 gc0 s)
  (b0N (fun x:Value×List (Nat×Obj)×Own=>m0T x.1 (d0J h0Q s).gone x.2.1∧n0W (d0J h0Q s)) (fun _=> .tuple #[]) (fun x=>e0E a by_ x.2.2 (d0J h0Q s).log (d0J h0Q s).depth::TT a by_ x.1 x.2.1 (d0J h0Q s))):=by
 refine en func148 ntmps148 fun R w0=> ?_;refine go 1 ?_;have hx0:s.log.length≤s.log.length∧(h0Q≤s.log.length∨s.log.length=s.log.length)∧m0T gv0 (e0I s (s.log.drop s.log.length)).gone gc0∧n0W (e0I s (s.log.drop s.log.length)):=by rw[List.drop_length];exact⟨Nat.le_refl _,.inr rfl,hg0,hok0⟩
 refine j1O (L':=e0E a by_ o0 (s.log.take s.log.length) s.depth::(TT a by_ gv0 gc0 (e0I s (s.log.drop s.log.length))++ [R])) (by rw[List.take_length,List.drop_length];rfl) ?_;simp only[TT,List.cons_append,List.nil_append];refine a0V (X:= {x:Nat×Value×List (Nat×Obj)×Own // x.1≤s.log.length∧(h0Q≤x.1∨x.1=s.log.length)∧m0T x.2.1 (e0I s (s.log.drop x.1)).gone x.2.2.1∧n0W (e0I s (s.log.drop x.1))}) (fun _=> [(0,ptr a.log),(1,.int .i64 h0Q)]) (fun x=>e0E a by_ x.1.2.2.2 (s.log.take x.1.1) s.depth::(TT a by_ x.1.2.1 x.1.2.2.1 (e0I s (s.log.drop x.1.1))++ [R])) (fun x=>x.1.1) ⟨(s.log.length,gv0,gc0,o0),hx0⟩ gSu gSp ?_;rintro⟨⟨k,gv,gc,o⟩,hk,hmk,hg,hok⟩ m0 hm0
 try simp only at hm0
 try dsimp only
 dsimp only at hk hmk hg hok;simp only[TT,List.cons_append,List.nil_append];refine x0O gFd fun v vals hlk hdp hv1=> ?_;have hlen:=hlk.len;rw[List.length_take,Nat.min_eq_left hk]at hlen;refine go 7 ?_;refine a0D (h0Y Tsl.o rfl gFd) ?_;refine go 4 ?_;refine a0P rfl (fun hb12=> ?_) (fun hb12=> ?_)
 ·have hkm:h0Q<k:=by have:=of_decide_eq_true hb12;omega
  obtain⟨n,rfl⟩: ∃n,k=n+1:=⟨k-1,by omega⟩;obtain⟨vals',e,o',rfl,hvl,hperm,hst,hdr,hlk'⟩:=d2G (n:=n) hlk (by rw[List.length_take];omega);obtain⟨f,bb,hclo,hbody,hdoes⟩:=n2G a by_ gv gc (e0I s (s.log.drop (n+1))) e.1 e.2.1 e.2.2 hst hg hok;have hdrop:=i2A (n:=n) (l:=s.log) rfl hdr;have htk:(s.log.take (n+1)).take n=s.log.take n:=by rw[List.take_take,Nat.min_eq_left (by omega)]
  rw[htk]at hlk';refine i0Y gFd (by omega) fun bl cap hvv hcap=> ?_;subst hvv;have hnl:(vals'++ [e.2.1]).length=n+1:=by simp[hvl]
  have hb9:n+1≤1000000000:=by have:=hlk.1;rw[List.length_take]at this;omega
  have hix:0+((((vals'++ [e.2.1]).length:Nat):Int)-1).toNat*1=vals'.length:=by omega
  refine go 9 ?_;refine a0D (h0Y Tsl.o rfl gFd) ?_;refine go 12 ?_;refine a0D (a0U Sc.o rfl gFd (v:= .func (.func f) #[] (bb.map ptr).toArray) (by rw[d0Y,hix,List.getElem?_append_right (Nat.le_refl _)];simp[hclo])) ?_;refine go 11 ?_;refine a0D (h1H Tsl.o rfl rfl (by omega)) ?_;refine go 5 ?_;refine g2K (k:=n) gFd (by omega) ?_;rw[show(vals'++ [e.2.1]).take (n*1)=vals' by rw[Nat.mul_one,←hvl,List.take_left]];refine b0V (s2U hperm gFd) ?_;refine go 2 ?_;refine d0S rfl hbody rfl (hdoes) gSp ?_;rintro⟨gv',gc'⟩ hx;refine ns ?_;refine go 1 ?_;have htn:((((vals'++ [e.2.1]).length:Nat):Int)-1).toNat=n:=by omega
  have hun:n0Z e.1 (e0I s (s.log.drop (n+1)))=e0I s (s.log.drop n):=by rw[hdrop];rfl
  rw[htn,hun];refine b0G (L':=_) (p0P (o:=o') (vals:=vals') hlk' hdp (by rw[hvl];exact gSp)) ?_;exact rd idh (⟨(n,gv',gc',o'),by omega,.inl (by omega),by rw[hdrop];exact hx.1,by rw[hdrop];exact hx.2⟩)
 ·have hkm: ¬h0Q<k:=by have:=of_decide_eq_false hb12;omega
  have hs1:(d0J h0Q s).log=s.log.take k:=by
   show s.log.take h0Q=_;rcases hmk with h|h
   ·rw[show h0Q=k by omega]
   ·rw[h,List.take_of_length_le (by omega),List.take_length]
  have hd1:s.log.drop h0Q=s.log.drop k:=by
   rcases hmk with h|h
   ·rw[show h0Q=k by omega]
   ·rw[h,List.drop_eq_nil_of_le (by omega),List.drop_length]
  have hs2:d0J h0Q s= {e0I s (s.log.drop k)with log:=s.log.take k} :=by
   show {e0I s (s.log.drop h0Q)with log:=s.log.take h0Q} =_;rw[hd1,show s.log.take h0Q=s.log.take k from hs1]
  refine go 1 ?_;refine b0G (L':=_) (p0P hlk hdp gSp) (y1T (gv,gc,o) (by rw[hs2];exact⟨hg,hok⟩) rfl rfl (by rw[hs2,show({e0I s (s.log.drop k)with log:=s.log.take k} :St).depth=s.depth from(d1Z s _).2];exact gSp))
section
attribute [local semireducible] Sl.a0O Sl.OW Sl.CW Sl.OS Sl.OM Sl.OMf Sl.KM
abbrev fT:TypeId:=199
def t0U (x:B×B):List Value:= [.string (bs x.1),.string (bs x.2)]
def l0R (d:Dk):Prop:=(∀x∈d.l,x.1.length=64∧x.2.length=64)∧d.l.length≤4096∧d.left<4611686018427387904
abbrev dkC (a:Ad) (d:Dk):a0C:=pts a.disk (.cells #[a.vd,.bool d.armed,.int .i64 d.left,.bool d.dead] 173 (0,0))
abbrev dkR (a:Ad) (d:Dk):a0C:=b0H 175 2 a.vd d.l.length (d.l.flatMap t0U)
abbrev stC (a:Ad) (bits:Nat):a0C:=pts a.st (.cells #[ptr a.heap,.int .i64 bits,.map (some a.ix)] 210 (0,0))
abbrev mpC (a:Ad):a0C:=pts a.maps (.cells #[ptr a.heap,ptr a.st] 194 (0,0))
abbrev HX:=Nat×Value×List (Nat×Obj)×Own
def hlV (a:Ad) (s:St) (x:HX):List a0C:=e0E a x.1 x.2.2.2 s.log s.depth::m0K (m0T x.2.1 s.gone x.2.2.1∧n0W s)::TT a x.1 x.2.1 x.2.2.1 s
def HL (a:Ad) (s:St):a0C:=ex fun x:HX=>b0D (hlV a s x)
abbrev RS (W:World) (a:Ad) (s:St):List a0C:= [whole W,dkC a s.d,dkR a s.d,m0K (l0R s.d),stC a s.bits,mpC a,HL a s]
def gd {S α:Type} :Out α×S→Out Int×S
 | (.ok _,s)=>(.ok 0,s)
 | (.err e,s)=>(.ok e,s)
 | (.big,s)=>(.big,s)
section
variable {c:Cx} {Q:Exit→Act→World→Prop} {env:List (Nat×Value)} {L M:List a0C} {y:Code} {a:Ad} {s:St}
theorem e0J (hL:Fnd L (HL a s) M) (h: ∀by_ gv gc o,m0T gv s.gone gc→n0W s→CW c y Q env (e0E a by_ o s.log s.depth::(TT a by_ gv gc s++M))):CW c y Q env L:=by
 refine u0N hL fun x=> ?_;obtain⟨by_,gv,gc,o⟩:=x;simp only[hlV,List.cons_append];refine o0E (Fnd.there Fnd.here) fun hf=> ?_;refine b0V (L':=e0E a by_ o s.log s.depth::(TT a by_ gv gc s++M)) (fun w hw=> ?_) (h by_ gv gc o hf.1 hf.2);exact(t0J.1 (hw.perm (List.Perm.swap _ _ _))).2
theorem d0A {by_:Nat} {gv:Value} {gc:List (Nat×Obj)} {o:Own} (hg:m0T gv s.gone gc) (hok:n0W s) (hL:a0Z L (e0E a by_ o s.log s.depth::TT a by_ gv gc s) M) (w:World) (h:Sat w L):Sat w (HL a s::M):=by
 refine g0X.2 ⟨(by_,gv,gc,o),b0J.2 ?_⟩;have h1:=n0H (p:=m0T gv s.gone gc∧n0W s) ⟨hg,hok⟩ w (h.perm hL);exact h1.perm (List.Perm.swap _ _ _)
end
attribute [local irreducible] Sl.a0O Sl.OW Sl.CW Sl.OS Sl.OM Sl.OMf Sl.KM
theorem k1S (a:Ad) (s:St) (hd:0<s.depth):a1M prog 147 #[ptr a.log] .returning [HL a s] (fun e u' L'=> ∃_x:Unit,True∧(∃v,e= .returned v)∧settle u'= .returning∧L'= [HL a (k0F s)]):=by
 refine w1M (args:= [ptr a.log]) func147 rfl ntmps147 rfl (fun R w0=> ?_);simp only[j0Q,List.cons_append,List.nil_append];refine e0J gFd fun by_ gv gc o hg hok=> ?_;refine x0O gFd fun v vals hlk hdp hv1=> ?_;refine go 21 ?_;refine a0P rfl (fun hb13=> ?_) (fun hb13=> ?_)
 ·have h1:s.depth=1:=by have:=of_decide_eq_true hb13;omega
  have h0:((s.depth:Int)-1)=((0:Nat):Int):=by omega
  refine go 6 ?_;rw[h0];refine b0G (fun w h=>e0W 1 1 w h) ?_;refine b0G (p0P (a:=a) (by_:=by_) (o:=o) (log:= []) (depth:=0) (v:= .slice none 0 0) (vals:= []) ⟨by simp,[],o,List.Perm.refl _,rfl,rfl,by simp⟩ (by omega) gSp) ?_;have hl:k0F s= {s with depth:=0,log:= []} :=by unfold k0F;rw[if_pos h1]
  refine b0G (d0A (s:=k0F s) (by_:=by_) (gv:=gv) (gc:=gc) (o:=o) (by rw[hl];exact hg) (by rw[hl];exact hok) (by rw[hl];exact gSp)) ?_;refine w0X rfl (a0Z.back gSp) ⟨(),trivial,⟨_,rfl⟩,rfl,rfl⟩
 ·have h1: ¬s.depth=1:=by have:=of_decide_eq_false hb13;omega
  have h0:((s.depth:Int)-1)=((s.depth-1:Nat):Int):=by omega
  refine go 1 ?_;rw[h0];refine b0G (p0P hlk (depth:=s.depth-1) (by omega) gSp) ?_;have hl:k0F s= {s with depth:=s.depth-1} :=by unfold k0F;rw[if_neg h1]
  refine b0G (d0A (s:=k0F s) (by_:=by_) (gv:=gv) (gc:=gc) (o:=o) (by rw[hl];exact hg) (by rw[hl];exact hok) (by rw[hl];exact gSp)) ?_;refine w0X rfl (a0Z.back gSp) ⟨(),trivial,⟨_,rfl⟩,rfl,rfl⟩
end
end Go.Proofs.Q

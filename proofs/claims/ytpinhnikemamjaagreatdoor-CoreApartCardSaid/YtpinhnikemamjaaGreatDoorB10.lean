/- Part of the proof; no statement of its own. -/
import Derived.Test.YtpinhnikemamjaaGreatDoorB08
import Derived.Test.YtpinhnikemamjaaGreatDoorB09
import Derived.Test.YtpinhnikemamjaaGreatDoorB07
import Derived.Test.YtpinhnikemamjaaGreatDoorB05
set_option linter.all false
set_option maxRecDepth 4000
set_option maxHeartbeats 4000000
namespace Go.Proofs.Q
open Go.Sl Go.Sb
section
theorem e1M {P:Program} {f:FuncId} {args:Array Value} {A:a0E} {N:List a0E} {Post:Ending→List a0E→Prop} (h:a0S P f args [A,b0R N] Post):a0S P f args (A::N) Post:=by
 intro w F hs
 refine h w F ?_
 have h1:Sat w (N++(F:: [A])):=hs.perm (by
  show List.Perm (A::(N++ [F])) _
  exact((List.perm_append_singleton A (N++ [F])).symm).trans (by simp))
 have h2:=c0A.2 h1
 exact h2.perm (by show List.Perm [b0R N,F,A] [A,b0R N,F];exact(List.perm_append_comm (l₁:= [b0R N,F]) (l₂:= [A])))
theorem z0N (a:Ad) (by_:Nat) (o:Own) (log:List c0Y) (depth:Nat) (st:c0Y) (f:FuncId) {b1 b2:Nat} {o1 o2:Obj} {x y:Nat} (hs:q0W a by_ st (clo f [b1,b2]) [(x,o1),(y,o2)]) (hn:log.length<1000000000):
 a0S Tryz.prog 165 #[ptr a.log,.func (.func f) #[] #[ptr b1,ptr b2]] [e0O a by_ o log depth,pts x o1,pts y o2] (b0G (.tuple #[]) [e0O a by_ ((st,clo f [b1,b2],[(x,o1),(y,o2)])::o) (bk depth log st) depth]):=
 e1M (b1R a by_ o log depth st f [b1,b2] [(x,o1),(y,o2)] hs hn)
theorem d1N (a:Ad) (by_:Nat) (o:Own) (log:List c0Y) (depth:Nat) (st:c0Y) (f:FuncId) {b1 b2 b3 b4:Nat} {o1 o2 o3 o4:Obj} {x y z u:Nat} (hs:q0W a by_ st (clo f [b1,b2,b3,b4]) [(x,o1),(y,o2),(z,o3),(u,o4)]) (hn:log.length<1000000000):
 a0S Tryz.prog 165 #[ptr a.log,.func (.func f) #[] #[ptr b1,ptr b2,ptr b3,ptr b4]] [e0O a by_ o log depth,pts x o1,pts y o2,pts z o3,pts u o4] (b0G (.tuple #[]) [e0O a by_ ((st,clo f [b1,b2,b3,b4],[(x,o1),(y,o2),(z,o3),(u,o4)])::o) (bk depth log st) depth]):=
 e1M (b1R a by_ o log depth st f [b1,b2,b3,b4] [(x,o1),(y,o2),(z,o3),(u,o4)] hs hn)
def d0I (a:Ad) (by_:Nat) (gv:Value) (keep:Int):List Value:= [ptr a.disk,ptr a.log,ptr a.gr,.map (some a.refs),.map (some by_),gv,.int .i64 keep]
abbrev h0N (a:Ad) (by_:Nat) (gv:Value) (keep:Int):a0E:=pts a.heap (.cells (d0I a by_ gv keep).toArray 92 (0,0))
def p0T (a:Ad) (next epoch:Int):List Value:= [ptr a.heap,ptr a.maps,.map (some a.vols),.int .u32 next,.int .u32 epoch]
abbrev q0Z (a:Ad) (next epoch:Int):a0E:=pts a.core (.cells (p0T a next epoch).toArray 59 (0,0))
abbrev x0W (a:Ad) (by_:Nat) (o:Own) (log:List c0Y) (depth:Nat) (st:c0Y) (A:List a0E):Ending→List a0E→Prop:=
 c0X (fun _:c0Y×Value×List (Nat×Obj)=>True) (fun _=> .tuple #[]) (fun e=>e0O a by_ (e::o) (bk depth log st) depth::A)
attribute [local irreducible] Sl.a0L Sl.OW Sl.CW Sl.OS Sl.OM Sl.OMf Sl.KM
theorem u1I (a:Ad) (by_:Nat) (o:Own) (log:List c0Y) (depth:Nat) (gv:Value) (was to_:Int) (hn:log.length<1000000000):
 a0S Tryz.prog 162 #[ptr a.log,.pointer (some ⟨a.heap,6,none⟩),.int .i64 to_] [e0O a by_ o log depth,h0N a by_ gv was] (x0W a by_ o log depth (.keep was) [h0N a by_ gv to_]):=by
 refine a0C Tryz.func162 rfl Tryz.ntmps162 rfl (fun R w0=> ?_)
 simp only[a0N,List.cons_append,List.nil_append,d0I]
 refine go 2 ?_
 refine(a0X rfl (fun b4=> ?_))
 refine go 7 ?_
 refine(a0U Zr.o (fun b6=> ?_))
 refine go 7 ?_
 refine a0D rfl Hb.o rfl (z0N a by_ o log depth (.keep was) _ ⟨_,_,rfl,rfl⟩ hn) gSp ?_
 refine ns ?_
 refine go 3 ?_
 refine a0F (c0J Sc.o rfl gFd List.mem_cons_self (List.mem_cons_of_mem _ List.mem_cons_self) rfl) ?_
 refine go 4 ?_
 refine n0S _ trivial rfl rfl gSp
theorem m0R:u0I Tryz.prog 3 a0V (fun _=>True):=o1Z Tin.o
theorem b1S:u0I Tryz.prog 47 j0V (fun _=>True):=o1Z Tin.o
theorem b1T:u0I Tryz.prog 44 e0J (fun l=>l.length=32):=i2Z F.ka44
theorem tt {α:Type} {m:List α} {p:α→Prop} (h: ∀x,p x): ∀x∈m,p x:=fun x _=>h x
theorem i0S (w:Option Int):(w.map a0V).getD (.int .i64 0)= .int .i64 (w.getD 0):=by cases w<;>rfl
theorem i1F (w:Option Ent):(w.map e0K).getD (.agg #[.int .u32 0,.int .u32 0,.bool false,.int .i64 0,.int .i64 0,.int .u32 0])= .agg (b0M (w.getD j0I)).toArray:=by cases w<;>rfl
theorem u1J (a:Ad) (by_:Nat) (o:Own) (log:List c0Y) (depth:Nat) (was to_ ep:Int) (hn:log.length<1000000000):
 a0S Tryz.prog 181 #[ptr a.log,.pointer (some ⟨a.core,3,none⟩),.int .u32 to_] [e0O a by_ o log depth,q0Z a was ep] (x0W a by_ o log depth (.next was) [q0Z a to_ ep]):=by
 refine a0C Tryz.func181 rfl Tryz.ntmps181 rfl (fun R w0=> ?_)
 simp only[a0N,List.cons_append,List.nil_append,p0T]
 refine go 2 ?_
 refine(a0X rfl (fun b4=> ?_))
 refine go 7 ?_
 refine(a0U Zr.o (fun b6=> ?_))
 refine go 7 ?_
 refine a0D rfl Hb.o rfl (z0N a by_ o log depth (.next was) _ ⟨_,_,rfl,rfl⟩ hn) gSp ?_
 refine ns ?_
 refine go 3 ?_
 refine a0F (c0J Sc.o rfl gFd List.mem_cons_self (List.mem_cons_of_mem _ List.mem_cons_self) rfl) ?_
 refine go 4 ?_
 refine n0S _ trivial rfl rfl gSp
theorem p0B (a:Ad) (by_:Nat) (o:Own) (log:List c0Y) (depth:Nat) (mb:Nat) (m:List (Int×Int)) (k v:Int) (st:c0Y) (hn:log.length<1000000000)
 (hst: ∀b1 b2 b3 b4,q0W a by_ st (clo 282 [b1,b2,b3,b4]) [e0D b1 89 (.map (some mb)),e0D b2 3 (.int .i64 k),e0D b3 3 (.int .i64 ((a0H k m).getD 0)),e0D b4 4 (.bool (a0H k m).isSome)]):
 a0S Tryz.prog 248 #[ptr a.log,.map (some mb),.int .i64 k,.int .i64 v] [e0O a by_ o log depth,c0T mb a0V a0V m] (x0W a by_ o log depth st [c0T mb a0V a0V (c0F k v m)]):=by
 refine a0C Tryz.func248 rfl Tryz.ntmps248 rfl (fun R w0=> ?_)
 simp only[a0N,List.cons_append,List.nil_append]
 refine go 2 ?_
 refine(a0X rfl (fun b5=> ?_))
 refine(a0X rfl (fun b6=> ?_))
 refine go 6 ?_
 refine a0F (o0Y (ek:=a0V) (ev:=a0V) e0T.o m0R (tt fun _=>trivial) trivial Zr.o rfl rfl gFd i0S) ?_
 refine go 3 ?_
 refine(a0U Zr.o (fun b8=> ?_))
 refine(a0U Zr.o (fun b9=> ?_))
 refine go 8 ?_
 refine a0D rfl Hb.o rfl (d1N a by_ o log depth st _ (hst _ _ _ _) hn) gSp ?_
 refine ns ?_
 refine go 3 ?_
 refine a0F (c0J Sc.o rfl gFd List.mem_cons_self List.mem_cons_self rfl) ?_
 refine a0F (c0J Sc.o rfl gFd List.mem_cons_self (List.mem_cons_of_mem _ List.mem_cons_self) rfl) ?_
 refine go 1 ?_
 refine p0N (ek:=a0V) (ev:=a0V) e0T.o m0R (tt fun _=>trivial) trivial rfl rfl rfl gFd ?_
 refine go 1 ?_
 refine n0S _ trivial rfl rfl gSp
theorem p0U (a:Ad) (by_:Nat) (o:Own) (log:List c0Y) (depth:Nat) (mb:Nat) (m:List (Int×Int)) (k:Int) (st:c0Y) (hn:log.length<1000000000)
 (hst: ∀b1 b2 b3 b4,q0W a by_ st (clo 286 [b1,b2,b3,b4]) [e0D b1 89 (.map (some mb)),e0D b2 3 (.int .i64 k),e0D b3 3 (.int .i64 ((a0H k m).getD 0)),e0D b4 4 (.bool (a0H k m).isSome)]):
 a0S Tryz.prog 257 #[ptr a.log,.map (some mb),.int .i64 k] [e0O a by_ o log depth,c0T mb a0V a0V m] (x0W a by_ o log depth st [c0T mb a0V a0V (b0I k m)]):=by
 refine a0C Tryz.func257 rfl Tryz.ntmps257 rfl (fun R w0=> ?_)
 simp only[a0N,List.cons_append,List.nil_append]
 refine go 2 ?_
 refine(a0X rfl (fun b4=> ?_))
 refine(a0X rfl (fun b5=> ?_))
 refine go 6 ?_
 refine a0F (o0Y (ek:=a0V) (ev:=a0V) e0T.o m0R (tt fun _=>trivial) trivial Zr.o rfl rfl gFd i0S) ?_
 refine go 3 ?_
 refine(a0U Zr.o (fun b6=> ?_))
 refine(a0U Zr.o (fun b7=> ?_))
 refine go 8 ?_
 refine a0D rfl Hb.o rfl (d1N a by_ o log depth st _ (hst _ _ _ _) hn) gSp ?_
 refine ns ?_
 refine go 3 ?_
 refine a0F (c0J Sc.o rfl gFd List.mem_cons_self List.mem_cons_self rfl) ?_
 refine a0F (c0J Sc.o rfl gFd List.mem_cons_self (List.mem_cons_of_mem _ List.mem_cons_self) rfl) ?_
 refine r0L (ek:=a0V) (ev:=a0V) e0T.o m0R (tt fun _=>trivial) trivial rfl rfl gFd ?_
 refine go 1 ?_
 refine n0S _ trivial rfl rfl gSp
end
section
attribute [local irreducible] Sl.a0L Sl.OW Sl.CW Sl.OS Sl.OM Sl.OMf Sl.KM
theorem u1K (a:Ad) (by_:Nat) (o:Own) (log:List c0Y) (depth:Nat) (m:List (B×Int)) (k:B) (v:Int) (hn:log.length<1000000000) (hm: ∀p∈m,p.1.length=32) (hk:k.length=32):
 a0S Tryz.prog 204 #[ptr a.log,.map (some a.ix),e0J k,.int .i64 v] [e0O a by_ o log depth,c0T a.ix e0J a0V m] (x0W a by_ o log depth (.index k (a0H k m)) [c0T a.ix e0J a0V (c0F k v m)]):=by
 have hsz:(k.map a0Z).toArray.size=32:=by simp[hk]
 refine a0C Tryz.func204 rfl Tryz.ntmps204 rfl (fun R w0=> ?_)
 simp only[a0N,List.cons_append,List.nil_append,e0J]
 refine go 2 ?_
 refine(a0X rfl (fun b5=> ?_))
 refine(a0X rfl (fun b6=> ?_))
 refine go 5 ?_
 refine a0F (a0O Ag.o rfl (by simp[Value.cells,hk]) (a0I (by simp[Value.cells,hk]))) ?_
 refine a0F (o0Y (ek:=e0J) (ev:=a0V) (k:=k) e0T.o b1T hm hk Zr.o rfl rfl gFd i0S) ?_
 refine go 3 ?_
 refine(a0U Zr.o (fun b8=> ?_))
 refine(a0U Zr.o (fun b9=> ?_))
 refine go 8 ?_
 refine a0D rfl Hb.o rfl (d1N a by_ o log depth (.index k (a0H k m)) _ ⟨hk,_,_,_,_,.inl rfl,rfl⟩ hn) gSp ?_
 refine ns ?_
 refine go 3 ?_
 refine a0F (c0J Sc.o rfl gFd List.mem_cons_self List.mem_cons_self rfl) ?_
 refine a0F (b1Q Ag.o rfl gFd List.mem_cons_self (List.mem_cons_of_mem _ List.mem_cons_self) (by simp[hk]) (a0I (by simp[hk]))) ?_
 refine go 1 ?_
 refine p0N (ek:=e0J) (ev:=a0V) (k:=k) e0T.o b1T hm hk rfl rfl rfl gFd ?_
 refine go 1 ?_
 refine n0S _ trivial rfl rfl gSp
theorem p1P (a:Ad) (by_:Nat) (o:Own) (log:List c0Y) (depth:Nat) (m:List (B×Int)) (k:B) (hn:log.length<1000000000) (hm: ∀p∈m,p.1.length=32) (hk:k.length=32):
 a0S Tryz.prog 241 #[ptr a.log,.map (some a.ix),e0J k] [e0O a by_ o log depth,c0T a.ix e0J a0V m] (x0W a by_ o log depth (.index k (a0H k m)) [c0T a.ix e0J a0V (b0I k m)]):=by
 have hsz:(k.map a0Z).toArray.size=32:=by simp[hk]
 refine a0C Tryz.func241 rfl Tryz.ntmps241 rfl (fun R w0=> ?_)
 simp only[a0N,List.cons_append,List.nil_append,e0J]
 refine go 2 ?_
 refine(a0X rfl (fun b4=> ?_))
 refine(a0X rfl (fun b5=> ?_))
 refine go 5 ?_
 refine a0F (a0O Ag.o rfl (by simp[Value.cells,hk]) (a0I (by simp[Value.cells,hk]))) ?_
 refine a0F (o0Y (ek:=e0J) (ev:=a0V) (k:=k) e0T.o b1T hm hk Zr.o rfl rfl gFd i0S) ?_
 refine go 3 ?_
 refine(a0U Zr.o (fun b6=> ?_))
 refine(a0U Zr.o (fun b7=> ?_))
 refine go 8 ?_
 refine a0D rfl Hb.o rfl (d1N a by_ o log depth (.index k (a0H k m)) _ ⟨hk,_,_,_,_,.inr rfl,rfl⟩ hn) gSp ?_
 refine ns ?_
 refine go 3 ?_
 refine a0F (c0J Sc.o rfl gFd List.mem_cons_self List.mem_cons_self rfl) ?_
 refine a0F (b1Q Ag.o rfl gFd List.mem_cons_self (List.mem_cons_of_mem _ List.mem_cons_self) (by simp[hk]) (a0I (by simp[hk]))) ?_
 refine r0L (ek:=e0J) (ev:=a0V) (k:=k) e0T.o b1T hm hk rfl rfl gFd ?_
 refine go 1 ?_
 refine n0S _ trivial rfl rfl gSp
theorem u1L (a:Ad) (by_:Nat) (o:Own) (log:List c0Y) (depth:Nat) (m:List (Int×Ent)) (k:Int) (v:Ent) (hn:log.length<1000000000):
 a0S Tryz.prog 119 #[ptr a.log,.map (some a.vols),.int .u32 k,e0K v] [e0O a by_ o log depth,c0T a.vols j0V e0K m] (x0W a by_ o log depth (.vols k (a0H k m)) [c0T a.vols j0V e0K (c0F k v m)]):=by
 refine a0C Tryz.func119 rfl Tryz.ntmps119 rfl (fun R w0=> ?_)
 simp only[a0N,List.cons_append,List.nil_append,e0K]
 refine go 2 ?_
 refine(a0X rfl (fun b5=> ?_))
 refine(a0X rfl (fun b6=> ?_))
 refine(a0X rfl (fun b7=> ?_))
 refine go 6 ?_
 refine a0F (o0Y (ek:=j0V) (ev:=e0K) (k:=k) e0T.o b1S (tt fun _=>trivial) trivial Zr.o rfl rfl gFd i1F) ?_
 refine go 3 ?_
 refine(a0U Zr.o (fun b8=> ?_))
 refine(a0U Zr.o (fun b9=> ?_))
 refine a0K Sz.o rfl rfl rfl (by simp[b0M,Value.oneCell']) (by simp[b0M,Value.cells]) (a0R (by simp[b0M,Value.cells])) ?_
 refine go 7 ?_
 refine a0D rfl Hb.o rfl (d1N a by_ o log depth (.vols k (a0H k m)) _ ⟨_,_,_,_,.inl rfl,rfl⟩ hn) gSp ?_
 refine ns ?_
 refine go 3 ?_
 refine a0F (c0J Sc.o rfl gFd List.mem_cons_self List.mem_cons_self rfl) ?_
 refine a0F (c0J Sc.o rfl gFd List.mem_cons_self (List.mem_cons_of_mem _ List.mem_cons_self) rfl) ?_
 refine a0F (a0O Ag.o rfl (by simp[Value.cells,b0M]) (a0I (by simp[Value.cells,b0M]))) ?_
 refine p0N (ek:=j0V) (ev:=e0K) (k:=k) (v:=v) e0T.o b1S (tt fun _=>trivial) trivial rfl rfl rfl gFd ?_
 refine go 1 ?_
 refine n0S _ trivial rfl rfl gSp
theorem p1Q (a:Ad) (by_:Nat) (o:Own) (log:List c0Y) (depth:Nat) (m:List (Int×Ent)) (k:Int) (hn:log.length<1000000000):
 a0S Tryz.prog 123 #[ptr a.log,.map (some a.vols),.int .u32 k] [e0O a by_ o log depth,c0T a.vols j0V e0K m] (x0W a by_ o log depth (.vols k (a0H k m)) [c0T a.vols j0V e0K (b0I k m)]):=by
 refine a0C Tryz.func123 rfl Tryz.ntmps123 rfl (fun R w0=> ?_)
 simp only[a0N,List.cons_append,List.nil_append]
 refine go 2 ?_
 refine(a0X rfl (fun b4=> ?_))
 refine(a0X rfl (fun b5=> ?_))
 refine go 6 ?_
 refine a0F (o0Y (ek:=j0V) (ev:=e0K) (k:=k) e0T.o b1S (tt fun _=>trivial) trivial Zr.o rfl rfl gFd i1F) ?_
 refine go 3 ?_
 refine(a0U Zr.o (fun b6=> ?_))
 refine(a0U Zr.o (fun b7=> ?_))
 refine a0K Sz.o rfl rfl rfl (by simp[b0M,Value.oneCell']) (by simp[b0M,Value.cells]) (a0R (by simp[b0M,Value.cells])) ?_
 refine go 7 ?_
 refine a0D rfl Hb.o rfl (d1N a by_ o log depth (.vols k (a0H k m)) _ ⟨_,_,_,_,.inr rfl,rfl⟩ hn) gSp ?_
 refine ns ?_
 refine go 3 ?_
 refine a0F (c0J Sc.o rfl gFd List.mem_cons_self List.mem_cons_self rfl) ?_
 refine a0F (c0J Sc.o rfl gFd List.mem_cons_self (List.mem_cons_of_mem _ List.mem_cons_self) rfl) ?_
 refine r0L (ek:=j0V) (ev:=e0K) (k:=k) e0T.o b1S (tt fun _=>trivial) trivial rfl rfl gFd ?_
 refine go 1 ?_
 refine n0S _ trivial rfl rfl gSp
end
section
attribute [local irreducible] Sl.a0L Sl.OW Sl.CW Sl.OS Sl.OM Sl.OMf Sl.KM
theorem u1M (a:Ad) (by_:Nat) (o:Own) (log:List c0Y) (depth:Nat) (gv to_:Value) (keep:Int) (was:List Int) (gc:List (Nat×Obj)) (hn:log.length<1000000000) (hg:m0G gv was gc) (hto:to_.oneCell'=true):
 a0S Tryz.prog 260 #[ptr a.log,.pointer (some ⟨a.heap,5,none⟩),to_] [e0O a by_ o log depth,h0N a by_ gv keep,b0R (gc.map fun p=>pts p.1 p.2)] (x0W a by_ o log depth (.gone was) [h0N a by_ to_ keep]):=by
 have hgv:gv.oneCell'=true:=by rcases hg with ⟨_,⟨_,rfl,_⟩| ⟨_,_,_,rfl,_⟩⟩<;>rfl
 have hb: ∀b1 b2,a0S Tryz.prog 165 #[ptr a.log,.func (.func 287) #[] #[ptr b1,ptr b2]] [e0O a by_ o log depth,pts b1 (.cells #[gv] 90 (0,0)),pts b2 (.cells #[.pointer (some ⟨a.heap,5,none⟩)] 319 (0,0)),b0R (gc.map fun p=>pts p.1 p.2)]
  (b0G (.tuple #[]) [e0O a by_ ((.gone was,clo 287 [b1,b2],e0D b1 90 gv::e0D b2 319 (.pointer (some ⟨a.heap,5,none⟩))::gc)::o) (bk depth log (.gone was)) depth]):=by
  intro b1 b2 w F hs
  refine b1R a by_ o log depth (.gone was) _ [b1,b2] (e0D b1 90 gv::e0D b2 319 (.pointer (some ⟨a.heap,5,none⟩))::gc) ⟨b1,b2,gv,gc,rfl,rfl,hg⟩ hn w F ?_
  simp only[List.cons_append,List.nil_append]at hs
  have h1:Sat w ([b0R (gc.map fun p=>pts p.1 p.2),F,pts b1 (.cells #[gv] 90 (0,0)),pts b2 (.cells #[.pointer (some ⟨a.heap,5,none⟩)] 319 (0,0)),e0O a by_ o log depth]++ []):=hs.perm (show b0L _ _ _ from gSp)
  have h2:=(c0A.1 h1).perm List.perm_append_comm
  try simp only[List.cons_append,List.nil_append]at h2
  have h3:Sat w ([pts b1 (.cells #[gv] 90 (0,0)),pts b2 (.cells #[.pointer (some ⟨a.heap,5,none⟩)] 319 (0,0))]++(F::e0O a by_ o log depth::(gc.map fun p=>pts p.1 p.2))):=h2.perm (show b0L _ _ _ from gSp)
  have h4:Sat w (((e0D b1 90 gv::e0D b2 319 (.pointer (some ⟨a.heap,5,none⟩))::gc).map fun p=>pts p.1 p.2)++ [F,e0O a by_ o log depth]):=by
   simp only[List.map_cons,List.cons_append]
   refine h3.perm (List.Perm.cons _ (List.Perm.cons _ ?_))
   exact List.perm_append_comm (l₁:= [F,e0O a by_ o log depth])
  exact(c0A.2 h4).perm (by show b0L _ [_,_,_] [];exact gSp)
 refine a0C Tryz.func260 rfl Tryz.ntmps260 rfl (fun R w0=> ?_)
 simp only[a0N,List.cons_append,List.nil_append,d0I]
 refine go 2 ?_
 refine(a0X rfl (fun b4=> ?_))
 refine go 6 ?_
 skip
 refine go 1 ?_
 refine(a0U Zr.o (fun b6=> ?_))
 refine(d0V Sz.o rfl rfl hgv (by rfl) (by rfl) ?_)
 refine go 6 ?_
 refine a0D rfl Hb.o rfl (hb _ _) gSp ?_
 refine ns ?_
 refine go 3 ?_
 refine a0F (c0J Sc.o rfl gFd List.mem_cons_self (List.mem_cons_of_mem _ List.mem_cons_self) rfl) ?_
 refine go 2 ?_
 refine(d0V Sz.o rfl rfl hto (by rfl) (by rfl) ?_)
 refine go 1 ?_
 refine n0S _ trivial rfl rfl gSp
end
section
theorem w0B {k:Int} (h:inR k=true): -9223372036854775808≤k∧k≤9223372036854775807:=by simpa [inR] using h
attribute [local irreducible] Sl.a0L Sl.OW Sl.CW Sl.OS Sl.OM Sl.OMf Sl.KM
theorem b1U (mb:Nat) (m:List (Int×Int)) (k:Int) (w:Option Int):a0S Tryz.prog 283 #[.map (some mb),.int .i64 k,.int .i64 (w.getD 0),.bool w.isSome] [c0T mb a0V a0V m] (b0G (.tuple #[]) [c0T mb a0V a0V (f0K k w m)]):=by
 cases w with
 |none=>
  refine a0C Tryz.func283 rfl Tryz.ntmps283 rfl (fun R w0=> ?_)
  simp only[a0N,List.cons_append,List.nil_append,Option.getD_none,Option.isSome_none]
  refine go 12 ?_
  refine(r0L (ek:=a0V) (ev:=a0V) e0T.o m0R (tt fun _=>trivial) trivial rfl rfl gFd ?_)
  refine go 2 ?_
  refine b0V (fun _ _ h=>h) rfl rfl gSp
 |some v=>
  refine a0C Tryz.func283 rfl Tryz.ntmps283 rfl (fun R w0=> ?_)
  simp only[a0N,List.cons_append,List.nil_append,Option.getD_some,Option.isSome_some]
  refine go 14 ?_
  refine(p0N (ek:=a0V) (ev:=a0V) e0T.o m0R (tt fun _=>trivial) trivial rfl rfl rfl gFd ?_)
  refine go 1 ?_
  refine e0N rfl rfl gSp
theorem b1V (mb:Nat) (m:List (B×Int)) (k:B) (w:Option Int) (hm: ∀p∈m,p.1.length=32) (hk:k.length=32):a0S Tryz.prog 254 #[.map (some mb),e0J k,.int .i64 (w.getD 0),.bool w.isSome] [c0T mb e0J a0V m] (b0G (.tuple #[]) [c0T mb e0J a0V (f0K k w m)]):=by
 cases w with
 |none=>
  refine a0C Tryz.func254 rfl Tryz.ntmps254 rfl (fun R w0=> ?_)
  simp only[a0N,List.cons_append,List.nil_append,Option.getD_none,Option.isSome_none]
  refine go 2 ?_
  refine(a0X rfl (fun b5=> ?_))
  refine go 13 ?_
  refine a0F (a0O Ag.o rfl (by simp[e0J,Value.cells,hk]) (a0I (by simp[e0J,Value.cells,hk]))) ?_
  refine(r0L (ek:=e0J) (ev:=a0V) e0T.o b1T hm hk rfl rfl gFd ?_)
  refine go 2 ?_
  refine b0V (fun _ _ h=>h) rfl rfl gSp
 |some v=>
  refine a0C Tryz.func254 rfl Tryz.ntmps254 rfl (fun R w0=> ?_)
  simp only[a0N,List.cons_append,List.nil_append,Option.getD_some,Option.isSome_some]
  refine go 2 ?_
  refine(a0X rfl (fun b5=> ?_))
  refine go 14 ?_
  refine a0F (a0O Ag.o rfl (by simp[e0J,Value.cells,hk]) (a0I (by simp[e0J,Value.cells,hk]))) ?_
  refine go 1 ?_
  refine(p0N (ek:=e0J) (ev:=a0V) e0T.o b1T hm hk rfl rfl rfl gFd ?_)
  refine go 1 ?_
  refine e0N rfl rfl gSp
theorem b1W (mb:Nat) (m:List (Int×Ent)) (k:Int) (w:Option Ent):a0S Tryz.prog 167 #[.map (some mb),.int .u32 k,e0K (w.getD j0I),.bool w.isSome] [c0T mb j0V e0K m] (b0G (.tuple #[]) [c0T mb j0V e0K (f0K k w m)]):=by
 cases w with
 |none=>
  refine a0C Tryz.func167 rfl Tryz.ntmps167 rfl (fun R w0=> ?_)
  simp only[a0N,List.cons_append,List.nil_append,Option.getD_none,Option.isSome_none]
  refine go 2 ?_
  refine(a0X rfl (fun b6=> ?_))
  refine go 14 ?_
  refine(r0L (ek:=j0V) (ev:=e0K) e0T.o b1S (tt fun _=>trivial) trivial rfl rfl gFd ?_)
  refine go 2 ?_
  refine b0V (fun _ _ h=>h) rfl rfl gSp
 |some v=>
  refine a0C Tryz.func167 rfl Tryz.ntmps167 rfl (fun R w0=> ?_)
  simp only[a0N,List.cons_append,List.nil_append,Option.getD_some,Option.isSome_some]
  refine go 2 ?_
  refine(a0X rfl (fun b6=> ?_))
  refine go 15 ?_
  refine a0F (a0O Ag.o rfl (by simp[e0K,Value.cells,b0M]) (a0I (by simp[e0K,Value.cells,b0M]))) ?_
  refine(p0N (ek:=j0V) (ev:=e0K) e0T.o b1S (tt fun _=>trivial) trivial rfl rfl rfl gFd ?_)
  refine go 1 ?_
  refine e0N rfl rfl gSp
abbrev cel (b:Nat) (t:TypeId) (v:Value):a0E:=pts b (.cells #[v] t (0,0))
abbrev z1V (b1 b2 b3 b4 mb:Nat) (k:Int) (w:Option Int):List a0E:= [cel b1 89 (.map (some mb)),cel b2 3 (.int .i64 k),cel b3 3 (.int .i64 (w.getD 0)),cel b4 4 (.bool w.isSome)]
abbrev z1W (b1 b2 b3 b4 mb:Nat) (k:B) (w:Option Int):List a0E:= [cel b1 208 (.map (some mb)),pts b2 (.cells (k.map a0Z).toArray 44 (0,0)),cel b3 3 (.int .i64 (w.getD 0)),cel b4 4 (.bool w.isSome)]
abbrev z1X (b1 b2 b3 b4 mb:Nat) (k:Int) (w:Option Ent):List a0E:= [cel b1 57 (.map (some mb)),cel b2 47 (.int .u32 k),pts b3 (.cells (b0M (w.getD j0I)).toArray 50 (0,0)),cel b4 4 (.bool w.isSome)]
theorem w1P (b1 b2 b3 b4 mb:Nat) (m:List (Int×Int)) (k:Int) (w:Option Int):a0S Tryz.prog 282 #[ptr b1,ptr b2,ptr b3,ptr b4] (z1V b1 b2 b3 b4 mb k w++ [c0T mb a0V a0V m]) (b0G (.tuple #[]) (z1V b1 b2 b3 b4 mb k w++ [c0T mb a0V a0V (f0K k w m)])):=by
 refine a0C Tryz.func282 rfl Tryz.ntmps282 rfl (fun R w0=> ?_)
 simp only[a0N,List.cons_append,List.nil_append]
 refine go 5 ?_
 refine a0D rfl Hb.o rfl (b1U mb m k w) gSp ?_
 refine ns ?_
 refine go 1 ?_
 refine e0N rfl rfl gSp
theorem p1R (b1 b2 b3 b4 mb:Nat) (m:List (Int×Int)) (k:Int) (w:Option Int):a0S Tryz.prog 286 #[ptr b1,ptr b2,ptr b3,ptr b4] (z1V b1 b2 b3 b4 mb k w++ [c0T mb a0V a0V m]) (b0G (.tuple #[]) (z1V b1 b2 b3 b4 mb k w++ [c0T mb a0V a0V (f0K k w m)])):=by
 refine a0C Tryz.func286 rfl Tryz.ntmps286 rfl (fun R w0=> ?_)
 simp only[a0N,List.cons_append,List.nil_append]
 refine go 5 ?_
 refine a0D rfl Hb.o rfl (b1U mb m k w) gSp ?_
 refine ns ?_
 refine go 1 ?_
 refine e0N rfl rfl gSp
theorem o2D (b1 b2 b3 b4 mb:Nat) (m:List (B×Int)) (k:B) (w:Option Int) (hm: ∀p∈m,p.1.length=32) (hk:k.length=32):a0S Tryz.prog 253 #[ptr b1,ptr b2,ptr b3,ptr b4] (z1W b1 b2 b3 b4 mb k w++ [c0T mb e0J a0V m]) (b0G (.tuple #[]) (z1W b1 b2 b3 b4 mb k w++ [c0T mb e0J a0V (f0K k w m)])):=by
 refine a0C Tryz.func253 rfl Tryz.ntmps253 rfl (fun R w0=> ?_)
 simp only[a0N,List.cons_append,List.nil_append]
 refine go 2 ?_
 refine a0F (a0O Ag.o rfl (by simp[hk]) (a0I (by simp[hk]))) ?_
 refine go 2 ?_
 refine a0D rfl Hb.o rfl (b1V mb m k w hm hk) gSp ?_
 refine ns ?_
 refine go 1 ?_
 refine e0N rfl rfl gSp
theorem j2I (b1 b2 b3 b4 mb:Nat) (m:List (B×Int)) (k:B) (w:Option Int) (hm: ∀p∈m,p.1.length=32) (hk:k.length=32):a0S Tryz.prog 279 #[ptr b1,ptr b2,ptr b3,ptr b4] (z1W b1 b2 b3 b4 mb k w++ [c0T mb e0J a0V m]) (b0G (.tuple #[]) (z1W b1 b2 b3 b4 mb k w++ [c0T mb e0J a0V (f0K k w m)])):=by
 refine a0C Tryz.func279 rfl Tryz.ntmps279 rfl (fun R w0=> ?_)
 simp only[a0N,List.cons_append,List.nil_append]
 refine go 2 ?_
 refine a0F (a0O Ag.o rfl (by simp[hk]) (a0I (by simp[hk]))) ?_
 refine go 2 ?_
 refine a0D rfl Hb.o rfl (b1V mb m k w hm hk) gSp ?_
 refine ns ?_
 refine go 1 ?_
 refine e0N rfl rfl gSp
theorem o2E (b1 b2 b3 b4 mb:Nat) (m:List (Int×Ent)) (k:Int) (w:Option Ent):a0S Tryz.prog 166 #[ptr b1,ptr b2,ptr b3,ptr b4] (z1X b1 b2 b3 b4 mb k w++ [c0T mb j0V e0K m]) (b0G (.tuple #[]) (z1X b1 b2 b3 b4 mb k w++ [c0T mb j0V e0K (f0K k w m)])):=by
 refine a0C Tryz.func166 rfl Tryz.ntmps166 rfl (fun R w0=> ?_)
 simp only[a0N,List.cons_append,List.nil_append]
 refine go 3 ?_
 refine a0F (a0O Ag.o rfl (by simp[b0M]) (a0I (by simp[b0M]))) ?_
 refine go 1 ?_
 refine a0D rfl Hb.o rfl (b1W mb m k w) gSp ?_
 refine ns ?_
 refine go 1 ?_
 refine e0N rfl rfl gSp
theorem j2J (b1 b2 b3 b4 mb:Nat) (m:List (Int×Ent)) (k:Int) (w:Option Ent):a0S Tryz.prog 169 #[ptr b1,ptr b2,ptr b3,ptr b4] (z1X b1 b2 b3 b4 mb k w++ [c0T mb j0V e0K m]) (b0G (.tuple #[]) (z1X b1 b2 b3 b4 mb k w++ [c0T mb j0V e0K (f0K k w m)])):=by
 refine a0C Tryz.func169 rfl Tryz.ntmps169 rfl (fun R w0=> ?_)
 simp only[a0N,List.cons_append,List.nil_append]
 refine go 3 ?_
 refine a0F (a0O Ag.o rfl (by simp[b0M]) (a0I (by simp[b0M]))) ?_
 refine go 1 ?_
 refine a0D rfl Hb.o rfl (b1W mb m k w) gSp ?_
 refine ns ?_
 refine go 1 ?_
 refine e0N rfl rfl gSp
theorem o2F (a:Ad) (by_ b1 b2:Nat) (gv:Value) (w keep:Int):a0S Tryz.prog 195 #[ptr b1,ptr b2] [cel b1 3 (.int .i64 w),cel b2 236 (.pointer (some ⟨a.heap,6,none⟩)),h0N a by_ gv keep] (b0G (.tuple #[]) [h0N a by_ gv w]):=by
 refine a0C Tryz.func195 rfl Tryz.ntmps195 rfl (fun R w0=> ?_)
 simp only[a0N,List.cons_append,List.nil_append,d0I]
 refine go 6 ?_
 refine e0N rfl rfl gSp
theorem o2G (a:Ad) (b1 b2:Nat) (w next ep:Int):a0S Tryz.prog 221 #[ptr b1,ptr b2] [cel b1 47 (.int .u32 w),cel b2 256 (.pointer (some ⟨a.core,3,none⟩)),q0Z a next ep] (b0G (.tuple #[]) [q0Z a w ep]):=by
 refine a0C Tryz.func221 rfl Tryz.ntmps221 rfl (fun R w0=> ?_)
 simp only[a0N,List.cons_append,List.nil_append,p0T]
 refine go 6 ?_
 refine e0N rfl rfl gSp
theorem o2H (a:Ad) (by_ b1 b2:Nat) (gv x:Value) (keep:Int) (hx:x.oneCell'=true):a0S Tryz.prog 287 #[ptr b1,ptr b2] [cel b1 90 x,cel b2 319 (.pointer (some ⟨a.heap,5,none⟩)),h0N a by_ gv keep] (b0G (.tuple #[]) [h0N a by_ x keep]):=by
 refine a0C Tryz.func287 rfl Tryz.ntmps287 rfl (fun R w0=> ?_)
 simp only[a0N,List.cons_append,List.nil_append,d0I]
 refine go 4 ?_
 refine(d0V Sz.o rfl rfl hx (by rfl) (by rfl) ?_)
 refine go 1 ?_
 refine e0N rfl rfl gSp
theorem t2A (a:Ad) (by_ b1 b2:Nat) (gv:Value) (keep k:Int) (fr:Nat) (g:List Nat) (hk:inR k=true) (hfr:fr≤5000) (hl:g.length≤5000):a0S Tryz.prog 284 #[ptr b1,ptr b2] ([cel b1 55 (ptr a.heap),cel b2 3 (.int .i64 k),h0N a by_ gv keep]++gm a.gr a.grl fr g) (b0G (.tuple #[]) ([h0N a by_ gv keep]++gm a.gr a.grl fr (mvL fr g k 1 0))):=by
 refine a0C Tryz.func284 rfl Tryz.ntmps284 rfl (fun R w0=> ?_)
 simp only[a0N,List.cons_append,List.nil_append,d0I]
 refine d0S 5 Fol.o (by kernel_rfl) ?_
 simp only[List.take_succ_cons,List.take_zero,List.drop_succ_cons,List.drop_zero]
 refine go 6 ?_
 refine a0D rfl Hb.o rfl (i1C a.gr a.grl fr g k (w0B hk) hfr hl) gSp ?_
 refine ns ?_
 refine go 1 ?_
 refine e0N rfl rfl gSp
theorem t2B (a:Ad) (by_ b1 b2:Nat) (gv:Value) (keep k:Int) (fr:Nat) (g:List Nat) (hk:inR k=true) (hfr:fr≤5000) (hl:g.length≤5000):a0S Tryz.prog 259 #[ptr b1,ptr b2] ([cel b1 55 (ptr a.heap),cel b2 3 (.int .i64 k),h0N a by_ gv keep]++gm a.gr a.grl fr g) (b0G (.tuple #[]) ([h0N a by_ gv keep]++gm a.gr a.grl fr (mvL fr g k 2 1))):=by
 refine a0C Tryz.func259 rfl Tryz.ntmps259 rfl (fun R w0=> ?_)
 simp only[a0N,List.cons_append,List.nil_append,d0I]
 refine d0S 5 Fol.o (by kernel_rfl) ?_
 simp only[List.take_succ_cons,List.take_zero,List.drop_succ_cons,List.drop_zero]
 refine go 6 ?_
 refine a0D rfl Hb.o rfl (i1D a.gr a.grl fr g k (w0B hk) hfr hl) gSp ?_
 refine ns ?_
 refine go 1 ?_
 refine e0N rfl rfl gSp
end
def n0I (s:St):Prop:=s.fr≤5000∧s.g.length≤5000∧(∀x∈s.g,x<3)∧ ∀p∈s.index,p.1.length=32
abbrev h0G (c:List (Nat×Obj)):List a0E:=c.map fun p=>pts p.1 p.2
abbrev TT (a:Ad) (by_:Nat) (gv:Value) (gc:List (Nat×Obj)) (s:St):List a0E:= [h0N a by_ gv s.keep,b0R (h0G gc),c0T by_ a0V a0V s.young,c0T a.refs a0V a0V s.refs,c0T a.ix e0J a0V s.index,c0T a.vols j0V e0K s.vols,q0Z a s.next s.epoch,
 pts a.gr (.cells (l0S s.fr a.grl s.g).toArray 192 (0,0)),pts a.grl (.cells (s.g.map gst).toArray 3 (0,0))]
theorem v0G (fr:Nat) (l:List Nat) (x:Int) (k t:Nat):(mvL fr l x k t).length=l.length:=by unfold mvL;split<;>simp
theorem v0H {fr:Nat} {l:List Nat} {x:Int} {k t:Nat} (ht:t<3) (hl: ∀y∈l,y<3): ∀y∈mvL fr l x k t,y<3:=by
 intro y hy
 unfold mvL at hy
 split at hy
 ·rcases List.mem_or_eq_of_mem_set hy with h|rfl
  ·exact hl y h
  ·exact ht
 ·exact hl y hy
theorem p1S {K V:Type} [DecidableEq K] {k:K} {v:V} : ∀ {m:List (K×V)} {p:K×V},p∈c0F k v m→p=(k,v)∨p∈m
 | [],p,h=>by simp[c0F]at h;exact .inl h
 | (j,u)::m,p,h=>by
  unfold c0F at h
  split at h
  ·rcases List.mem_cons.1 h with h|h
   ·exact .inl h
   ·exact .inr (List.mem_cons_of_mem _ h)
  ·rcases List.mem_cons.1 h with h|h
   ·exact .inr (by simp[h])
   ·rcases p1S h with h|h
    ·exact .inl h
    ·exact .inr (List.mem_cons_of_mem _ h)
theorem p1T {K V:Type} [DecidableEq K] {k:K} : ∀ {m:List (K×V)} {p:K×V},p∈b0I k m→p∈m
 | [],p,h=>by simp[b0I]at h
 | (j,u)::m,p,h=>by
  unfold b0I at h
  split at h
  ·exact List.mem_cons_of_mem _ h
  ·rcases List.mem_cons.1 h with h|h
   ·simp[h]
   ·exact List.mem_cons_of_mem _ (p1T h)
theorem j2K {a:Ad} {by_:Nat} {st:c0Y} {v:Value} {c:List (Nat×Obj)} (h:q0W a by_ st v c) {s:St} (hs:n0I s):n0I (n0N st s):=by
 obtain⟨h1,h2,h3,h4⟩:=hs
 cases st with
 |give k=>exact⟨h1,by simpa [n0N,v0G] using h2,v0H (by omega) h3,h4⟩
 |back k=>exact⟨h1,by simpa [n0N,v0G] using h2,v0H (by omega) h3,h4⟩
 |index k w=>
  refine⟨h1,h2,h3,fun p hp=> ?_⟩
  simp only[n0N,Sb.f0K]at hp
  split at hp
  ·rcases p1S hp with rfl|hp
   ·exact h.1
   ·exact h4 p hp
  ·exact h4 p (p1T hp)
 |_=>exact⟨h1,h2,h3,h4⟩
theorem j2L (a:Ad) (by_:Nat) (gv:Value) (gc:List (Nat×Obj)) (s:St) (st:c0Y) (v:Value) (c:List (Nat×Obj)) (hs:q0W a by_ st v c) (hg:m0G gv s.gone gc) (hok:n0I s):
 ∃f bb,v=clo f bb∧f0J Tryz.prog f=true∧a0S Tryz.prog f (bb.map ptr).toArray (b0R (h0G c)::TT a by_ gv gc s)
  (c0X (fun x:Value×List (Nat×Obj)=>m0G x.1 (n0N st s).gone x.2∧n0I (n0N st s)) (fun _=> .tuple #[]) (fun x=>TT a by_ x.1 x.2 (n0N st s))):=by
 have hok':=j2K hs hok
 cases st with
 |give k=>
  obtain⟨hk,b1,b2,rfl,rfl⟩:=hs
  refine⟨_,[b1,b2],rfl,Hb.o,f0S (gv,gc) ⟨hg,hok'⟩ rfl rfl (j0T ?_)⟩
  exact i0P (t2A a by_ b1 b2 gv s.keep k s.fr s.g hk hok.1 hok.2.1) gSp gSp
 |back k=>
  obtain⟨hk,b1,b2,rfl,rfl⟩:=hs
  refine⟨_,[b1,b2],rfl,Hb.o,f0S (gv,gc) ⟨hg,hok'⟩ rfl rfl (j0T ?_)⟩
  exact i0P (t2B a by_ b1 b2 gv s.keep k s.fr s.g hk hok.1 hok.2.1) gSp gSp
 |keep w=>
  obtain⟨b1,b2,rfl,rfl⟩:=hs
  refine⟨_,[b1,b2],rfl,Hb.o,f0S (gv,gc) ⟨hg,hok'⟩ rfl rfl (j0T ?_)⟩
  exact i0P (o2F a by_ b1 b2 gv w s.keep) gSp gSp
 |next w=>
  obtain⟨b1,b2,rfl,rfl⟩:=hs
  refine⟨_,[b1,b2],rfl,Hb.o,f0S (gv,gc) ⟨hg,hok'⟩ rfl rfl (j0T ?_)⟩
  exact i0P (o2G a b1 b2 w s.next s.epoch) gSp gSp
 |gone w=>
  obtain⟨b1,b2,x,b3,rfl,rfl,hx⟩:=hs
  have hx1:x.oneCell'=true:=by rcases hx with ⟨_,⟨_,rfl,_⟩| ⟨_,_,_,rfl,_⟩⟩<;>rfl
  refine⟨_,[b1,b2],rfl,Hb.o,f0S (x,b3) ⟨hx,hok'⟩ rfl rfl (f1M (Pre:=cel b1 90 x::cel b2 319 (.pointer (some ⟨a.heap,5,none⟩))::b0R (h0G b3)::TT a by_ gv gc s) (fun w F h=> ?_) ?_)⟩
  ·have h0:Sat w (b0R (h0G (e0D b1 90 x::e0D b2 319 (.pointer (some ⟨a.heap,5,none⟩))::b3))::(TT a by_ gv gc s++F)):=h
   have h1:=c0A.1 h0
   have h1':Sat w ([cel b1 90 x,cel b2 319 (.pointer (some ⟨a.heap,5,none⟩))]++(h0G b3++(TT a by_ gv gc s++F))):=h1
   have h2:=h1'.perm List.perm_append_comm
   rw[List.append_assoc]at h2
   have h3:=(c0A.2 h2).perm (List.perm_append_comm (l₁:=b0R (h0G b3)::(TT a by_ gv gc s++F)) (l₂:= [cel b1 90 x,cel b2 319 (.pointer (some ⟨a.heap,5,none⟩))]))
   exact h3
  ·exact i0P (o2H a by_ b1 b2 gv x s.keep hx1) gSp gSp
 |refs k w=>
  obtain⟨b1,b2,b3,b4,hv,rfl⟩:=hs
  rcases hv with rfl|rfl
  ·refine⟨_,[b1,b2,b3,b4],rfl,Hb.o,f0S (gv,gc) ⟨hg,hok'⟩ rfl rfl (j0T ?_)⟩
   exact i0P (w1P b1 b2 b3 b4 a.refs s.refs k w) gSp gSp
  ·refine⟨_,[b1,b2,b3,b4],rfl,Hb.o,f0S (gv,gc) ⟨hg,hok'⟩ rfl rfl (j0T ?_)⟩
   exact i0P (p1R b1 b2 b3 b4 a.refs s.refs k w) gSp gSp
 |young k w=>
  obtain⟨b1,b2,b3,b4,hv,rfl⟩:=hs
  rcases hv with rfl|rfl
  ·refine⟨_,[b1,b2,b3,b4],rfl,Hb.o,f0S (gv,gc) ⟨hg,hok'⟩ rfl rfl (j0T ?_)⟩
   exact i0P (w1P b1 b2 b3 b4 by_ s.young k w) gSp gSp
  ·refine⟨_,[b1,b2,b3,b4],rfl,Hb.o,f0S (gv,gc) ⟨hg,hok'⟩ rfl rfl (j0T ?_)⟩
   exact i0P (p1R b1 b2 b3 b4 by_ s.young k w) gSp gSp
 |index k w=>
  obtain⟨hk,b1,b2,b3,b4,hv,rfl⟩:=hs
  rcases hv with rfl|rfl
  ·refine⟨_,[b1,b2,b3,b4],rfl,Hb.o,f0S (gv,gc) ⟨hg,hok'⟩ rfl rfl (j0T ?_)⟩
   exact i0P (o2D b1 b2 b3 b4 a.ix s.index k w hok.2.2.2 hk) gSp gSp
  ·refine⟨_,[b1,b2,b3,b4],rfl,Hb.o,f0S (gv,gc) ⟨hg,hok'⟩ rfl rfl (j0T ?_)⟩
   exact i0P (j2I b1 b2 b3 b4 a.ix s.index k w hok.2.2.2 hk) gSp gSp
 |vols k w=>
  obtain⟨b1,b2,b3,b4,hv,rfl⟩:=hs
  rcases hv with rfl|rfl
  ·refine⟨_,[b1,b2,b3,b4],rfl,Hb.o,f0S (gv,gc) ⟨hg,hok'⟩ rfl rfl (j0T ?_)⟩
   exact i0P (o2E b1 b2 b3 b4 a.vols s.vols k w) gSp gSp
  ·refine⟨_,[b1,b2,b3,b4],rfl,Hb.o,f0S (gv,gc) ⟨hg,hok'⟩ rfl rfl (j0T ?_)⟩
   exact i0P (j2J b1 b2 b3 b4 a.vols s.vols k w) gSp gSp
section
theorem z1Y {a:Ad} {by_:Nat} {o:Own} {log:List c0Y} {vals:List Value} {n:Nat} (h:o0I a by_ o log vals) (hn:log.length=n+1):
 ∃(vals':List Value) (e:c0Y×Value×List (Nat×Obj)) (o':Own),vals=vals'++ [e.2.1]∧vals'.length=n∧o.Perm (e::o')∧q0W a by_ e.1 e.2.1 e.2.2∧log.drop n= [e.1]∧o0I a by_ o' (log.take n) vals':=by
 obtain⟨h1,live,rest,hp,rfl,rfl,hl⟩:=h
 have hlen:live.length=n+1:=by simpa using hn
 obtain⟨l',e,rfl⟩: ∃l' e,live=l'++ [e]:=⟨live.dropLast,live.getLast (by intro h;simp[h]at hlen),(List.dropLast_concat_getLast _).symm⟩
 have hl':l'.length=n:=by simpa using hlen
 refine⟨l'.map (·.2.1),e,l'++rest,by simp,by simpa using hl',?_,hl e (by simp),?_,?_⟩
 ·refine hp.trans ?_
  rw[List.append_assoc]
  exact List.perm_middle
 ·simp[←hl']
 ·refine⟨by simp at h1 ⊢;omega,l',rest,List.Perm.refl _,?_,rfl,fun e' he=>hl e' (by simp[he])⟩
  rw[List.map_append,←hl',List.take_left' (by simp)]
theorem o2I {o o':Own} {e:c0Y×Value×List (Nat×Obj)} {L M:List a0E} (hp:o.Perm (e::o')) (hL:Fnd L (b0R (Own.cells o)) M) (w:World) (h:Sat w L):Sat w (b0R (h0G e.2.2)::b0R (Own.cells o')::M):=by
 have h1:=c0A.1 (hL.sat h)
 have h2:(Own.cells o).Perm (h0G e.2.2++Own.cells o'):=by
  have:=(hp.flatMap_right (fun x=>x.2.2)).map (fun p:Nat×Obj=>pts p.1 p.2)
  simpa [Own.cells,h0G] using this
 have h3:Sat w (h0G e.2.2++(Own.cells o'++M)):=h1.perm ((h2.append_right M).trans (by rw[List.append_assoc]))
 have h4:Sat w (Own.cells o'++(b0R (h0G e.2.2)::M)):=(c0A.2 h3).perm List.perm_middle.symm
 exact(c0A.2 h4).perm (List.Perm.swap _ _ _)
theorem b1X (s:St): ∀l,(e0R s l).log=s.log∧(e0R s l).depth=s.depth
 | []=>⟨rfl,rfl⟩
 |st::l=>by
  have:=b1X s l
  cases st<;>exact this
theorem e2B {l:List c0Y} {k n:Nat} {e:c0Y} (hk:k=n+1) (hl:(l.take k).drop n= [e]):l.drop n=e::l.drop k:=by
 subst hk
 have h1:(l.take (n+1))++l.drop (n+1)=l:=List.take_append_drop _ _
 have h2:n≤(l.take (n+1)).length:=by
  rcases Nat.lt_or_ge (l.take (n+1)).length n with h|h
  ·rw[List.drop_eq_nil_of_le (by omega)]at hl;cases hl
  ·exact h
 conv=>lhs;rw[←h1]
 rw[List.drop_append_of_le_length h2,hl];rfl
attribute [local irreducible] Sl.a0L Sl.OW Sl.CW Sl.OS Sl.OM Sl.OMf Sl.KM
theorem o2J (a:Ad) (by_:Nat) (gv0:Value) (gc0:List (Nat×Obj)) (o0:Own) (s:St) (h0I:Nat) (hg0:m0G gv0 s.gone gc0) (hok0:n0I s):
 a0S Tryz.prog 148 #[ptr a.log,.int .i64 h0I] (e0O a by_ o0 s.log s.depth::TT a by_ gv0 gc0 s)
  (c0X (fun x:Value×List (Nat×Obj)×Own=>m0G x.1 (d0T h0I s).gone x.2.1∧n0I (d0T h0I s)) (fun _=> .tuple #[]) (fun x=>e0O a by_ x.2.2 (d0T h0I s).log (d0T h0I s).depth::TT a by_ x.1 x.2.1 (d0T h0I s))):=by
 refine a0C Tryz.func148 rfl Tryz.ntmps148 rfl (fun R w0=> ?_)
 simp only[a0N,List.cons_append,List.nil_append]
 refine go 1 ?_
 have hx0:s.log.length≤s.log.length∧(h0I≤s.log.length∨s.log.length=s.log.length)∧m0G gv0 (e0R s (s.log.drop s.log.length)).gone gc0∧n0I (e0R s (s.log.drop s.log.length)):=by rw[List.drop_length];exact⟨Nat.le_refl _,.inr rfl,hg0,hok0⟩
 refine h1G (L':=e0O a by_ o0 (s.log.take s.log.length) s.depth::(TT a by_ gv0 gc0 (e0R s (s.log.drop s.log.length))++ [R])) (by rw[List.take_length,List.drop_length];rfl) ?_
 simp only[TT,List.cons_append,List.nil_append]
 refine b0S (X:= {x:Nat×Value×List (Nat×Obj)×Own // x.1≤s.log.length∧(h0I≤x.1∨x.1=s.log.length)∧m0G x.2.1 (e0R s (s.log.drop x.1)).gone x.2.2.1∧n0I (e0R s (s.log.drop x.1))}) (fun _=> [(0,ptr a.log),(1,.int .i64 h0I)]) (fun x=>e0O a by_ x.1.2.2.2 (s.log.take x.1.1) s.depth::(TT a by_ x.1.2.1 x.1.2.2.1 (e0R s (s.log.drop x.1.1))++ [R])) (fun x=>x.1.1) ⟨(s.log.length,gv0,gc0,o0),hx0⟩ gSu gSp ?_
 rintro⟨⟨k,gv,gc,o⟩,hk,hmk,hg,hok⟩ m0 hm0
 try simp only at hm0
 try dsimp only
 dsimp only at hk hmk hg hok
 simp only[TT,List.cons_append,List.nil_append]
 refine w0A gFd fun v vals hlk hdp hv1=> ?_
 have hlen:=hlk.len
 rw[List.length_take,Nat.min_eq_left hk]at hlen
 refine go 7 ?_
 refine a0F (j0S Tsl.o rfl gFd) ?_
 refine go 4 ?_
 refine b0C rfl (fun hb12=> ?_) (fun hb12=> ?_)
 ·have hkm:h0I<k:=by have:=of_decide_eq_true hb12;omega
  obtain⟨n,rfl⟩: ∃n,k=n+1:=⟨k-1,by omega⟩
  obtain⟨vals',e,o',rfl,hvl,hperm,hst,hdr,hlk'⟩:=z1Y (n:=n) hlk (by rw[List.length_take];omega)
  obtain⟨f,bb,hclo,hbody,hdoes⟩:=j2L a by_ gv gc (e0R s (s.log.drop (n+1))) e.1 e.2.1 e.2.2 hst hg hok
  have hdrop:=e2B (n:=n) (l:=s.log) rfl hdr
  have htk:(s.log.take (n+1)).take n=s.log.take n:=by rw[List.take_take,Nat.min_eq_left (by omega)]
  rw[htk]at hlk'
  refine n0U gFd (by omega) fun bl cap hvv hcap=> ?_
  subst hvv
  have hnl:(vals'++ [e.2.1]).length=n+1:=by simp[hvl]
  have hb9:n+1≤1000000000:=by have:=hlk.1;rw[List.length_take]at this;omega
  have hix:0+((((vals'++ [e.2.1]).length:Nat):Int)-1).toNat*1=vals'.length:=by omega
  refine go 9 ?_
  refine a0F (j0S Tsl.o rfl gFd) ?_
  refine go 12 ?_
  refine a0F (e0G Sc.o rfl gFd (v:= .func (.func f) #[] (bb.map ptr).toArray) (by rw[e0L,hix,List.getElem?_append_right (Nat.le_refl _)];simp[hclo])) ?_
  refine go 11 ?_
  refine a0F (f1L Tsl.o rfl rfl (by omega)) ?_
  refine go 5 ?_
  refine d2L (k:=n) gFd (by omega) ?_
  rw[show(vals'++ [e.2.1]).take (n*1)=vals' by rw[Nat.mul_one,←hvl,List.take_left]]
  refine c0S (o2I hperm gFd) ?_
  refine go 2 ?_
  refine a0W rfl hbody rfl (hdoes) gSp ?_
  rintro⟨gv',gc'⟩ hx
  refine ns ?_
  refine go 1 ?_
  have htn:((((vals'++ [e.2.1]).length:Nat):Int)-1).toNat=n:=by omega
  have hun:n0N e.1 (e0R s (s.log.drop (n+1)))=e0R s (s.log.drop n):=by rw[hdrop];rfl
  rw[htn,hun]
  refine b0O (L':=_) (p0A (o:=o') (vals:=vals') hlk' hdp (by rw[hvl];exact gSp)) ?_
  refine b0Q (fun _ _ h=>h) (⟨(n,gv',gc',o'),by omega,.inl (by omega),by rw[hdrop];exact hx.1,by rw[hdrop];exact hx.2⟩) (by first|omega| (simp only;omega)) gSu gSp
 ·have hkm: ¬h0I<k:=by have:=of_decide_eq_false hb12;omega
  have hs1:(d0T h0I s).log=s.log.take k:=by
   show s.log.take h0I=_
   rcases hmk with h|h
   ·rw[show h0I=k by omega]
   ·rw[h,List.take_of_length_le (by omega),List.take_length]
  have hd1:s.log.drop h0I=s.log.drop k:=by
   rcases hmk with h|h
   ·rw[show h0I=k by omega]
   ·rw[h,List.drop_eq_nil_of_le (by omega),List.drop_length]
  have hs2:d0T h0I s= {e0R s (s.log.drop k)with log:=s.log.take k} :=by
   show {e0R s (s.log.drop h0I)with log:=s.log.take h0I} =_
   rw[hd1,show s.log.take h0I=s.log.take k from hs1]
  refine go 1 ?_
  refine b0O (L':=_) (p0A hlk hdp gSp) (n0S (gv,gc,o) (by rw[hs2];exact⟨hg,hok⟩) rfl rfl (by rw[hs2,show({e0R s (s.log.drop k)with log:=s.log.take k} :St).depth=s.depth from(b1X s _).2];exact gSp))
end
section
abbrev fT:TypeId:=199
def t0A (x:B×B):List Value:= [.string (bs x.1),.string (bs x.2)]
def l0L (d:Dk):Prop:=(∀x∈d.l,x.1.length=64∧x.2.length=64)∧d.l.length≤4096∧d.left<4611686018427387904
abbrev dkC (a:Ad) (d:Dk):a0E:=pts a.disk (.cells #[a.vd,.bool d.armed,.int .i64 d.left,.bool d.dead] 173 (0,0))
abbrev dkR (a:Ad) (d:Dk):a0E:=c0E 175 2 a.vd d.l.length (d.l.flatMap t0A)
abbrev stC (a:Ad) (bits:Nat):a0E:=pts a.st (.cells #[ptr a.heap,.int .i64 bits,.map (some a.ix)] 210 (0,0))
abbrev mpC (a:Ad):a0E:=pts a.maps (.cells #[ptr a.heap,ptr a.st] 194 (0,0))
abbrev HX:=Nat×Value×List (Nat×Obj)×Own
def hlV (a:Ad) (s:St) (x:HX):List a0E:=e0O a x.1 x.2.2.2 s.log s.depth::m0P (m0G x.2.1 s.gone x.2.2.1∧n0I s)::TT a x.1 x.2.1 x.2.2.1 s
def HL (a:Ad) (s:St):a0E:=ex fun x:HX=>b0R (hlV a s x)
abbrev RS (W:World) (a:Ad) (s:St):List a0E:= [whole W,dkC a s.d,dkR a s.d,m0P (l0L s.d),stC a s.bits,mpC a,HL a s]
def gd {S α:Type} :Out α×S→Out Int×S
 | (.ok _,s)=>(.ok 0,s)
 | (.err e,s)=>(.ok e,s)
 | (.big,s)=>(.big,s)
section
variable {c:Cx} {Q:Exit→Act→World→Prop} {env:List (Nat×Value)} {L M:List a0E} {y:Code} {a:Ad} {s:St}
theorem f0F (hL:Fnd L (HL a s) M) (h: ∀by_ gv gc o,m0G gv s.gone gc→n0I s→CW c y Q env (e0O a by_ o s.log s.depth::(TT a by_ gv gc s++M))):CW c y Q env L:=by
 refine b1K hL fun x=> ?_
 obtain⟨by_,gv,gc,o⟩:=x
 simp only[hlV,List.cons_append]
 refine o0Z (Fnd.there Fnd.here) fun hf=> ?_
 refine c0S (L':=e0O a by_ o s.log s.depth::(TT a by_ gv gc s++M)) (fun w hw=> ?_) (h by_ gv gc o hf.1 hf.2)
 exact(s0R.1 (hw.perm (List.Perm.swap _ _ _))).2
theorem d0Q {by_:Nat} {gv:Value} {gc:List (Nat×Obj)} {o:Own} (hg:m0G gv s.gone gc) (hok:n0I s) (hL:b0L L (e0O a by_ o s.log s.depth::TT a by_ gv gc s) M) (w:World) (h:Sat w L):Sat w (HL a s::M):=by
 refine l0Q.2 ⟨(by_,gv,gc,o),c0A.2 ?_⟩
 have h1:=o0F (p:=m0G gv s.gone gc∧n0I s) ⟨hg,hok⟩ w (h.perm hL)
 exact h1.perm (List.Perm.swap _ _ _)
end
attribute [local irreducible] Sl.a0L Sl.OW Sl.CW Sl.OS Sl.OM Sl.OMf Sl.KM
theorem i1G (a:Ad) (s:St) (hd:0<s.depth):z0D Tryz.prog 147 #[ptr a.log] .returning [HL a s] (fun e u' L'=> ∃_x:Unit,True∧(∃v,e= .returned v)∧settle u'= .returning∧L'= [HL a (j0Y s)]):=by
 refine u1C (args:= [ptr a.log]) Tryz.func147 rfl Tryz.ntmps147 rfl (fun R w0=> ?_)
 simp only[a0N,List.cons_append,List.nil_append]
 refine f0F gFd fun by_ gv gc o hg hok=> ?_
 refine w0A gFd fun v vals hlk hdp hv1=> ?_
 refine go 21 ?_
 refine b0C rfl (fun hb13=> ?_) (fun hb13=> ?_)
 ·have h1:s.depth=1:=by have:=of_decide_eq_true hb13;omega
  have h0:((s.depth:Int)-1)=((0:Nat):Int):=by omega
  refine go 6 ?_
  rw[h0]
  refine b0O (fun w h=>h0S 1 1 w h) ?_
  refine b0O (p0A (a:=a) (by_:=by_) (o:=o) (log:= []) (depth:=0) (v:= .slice none 0 0) (vals:= []) ⟨by simp,[],o,List.Perm.refl _,rfl,rfl,by simp⟩ (by omega) gSp) ?_
  have hl:j0Y s= {s with depth:=0,log:= []} :=by unfold j0Y;rw[if_pos h1]
  refine b0O (d0Q (s:=j0Y s) (by_:=by_) (gv:=gv) (gc:=gc) (o:=o) (by rw[hl];exact hg) (by rw[hl];exact hok) (by rw[hl];exact gSp)) ?_
  refine v0V rfl (b0L.back gSp) ⟨(),trivial,⟨_,rfl⟩,rfl,rfl⟩
 ·have h1: ¬s.depth=1:=by have:=of_decide_eq_false hb13;omega
  have h0:((s.depth:Int)-1)=((s.depth-1:Nat):Int):=by omega
  refine go 1 ?_
  rw[h0]
  refine b0O (p0A hlk (depth:=s.depth-1) (by omega) gSp) ?_
  have hl:j0Y s= {s with depth:=s.depth-1} :=by unfold j0Y;rw[if_neg h1]
  refine b0O (d0Q (s:=j0Y s) (by_:=by_) (gv:=gv) (gc:=gc) (o:=o) (by rw[hl];exact hg) (by rw[hl];exact hok) (by rw[hl];exact gSp)) ?_
  refine v0V rfl (b0L.back gSp) ⟨(),trivial,⟨_,rfl⟩,rfl,rfl⟩
end
end Go.Proofs.Q

/- Part of the proof; no statement of its own. -/
import Derived.Test.YtpinhnikemamjaaGreatDoorD05
import Derived.Laws.IdiomRangeMap
import Derived.Test.YtpinhnikemamjaaGreatDoorProg
import Derived.KernelRfl
import Derived.Test.YtpinhnikemamjaaGreatDoorD08
import Derived.Test.YtpinhnikemamjaaGreatDoorD06
import Derived.Sort.Grow
import Derived.Test.YtpinhnikemamjaaGreatDoorD04
import Derived.Test.YtpinhnikemamjaaGreatDoorD17
import Derived.Test.YtpinhnikemamjaaGreatDoorD16
import Derived.ChangeArms
import Derived.DataReads
set_option linter.all false
set_option maxRecDepth 4000
set_option maxHeartbeats 4000000
namespace Go.Sl
section
section
variable {κ ν:Type} {ek:κ→Value} {ev:ν→Value}
def t0R (r b:Nat) (ek:κ→Value) (ev:ν→Value) (m a:List (κ×ν)) (cur:Option (κ×ν)):a0E:=fun l=>
 ∃(es:List (MapEntry×κ×ν)) (clk:Nat) (seen:Array Nat),es.map (·.2)=m∧(∀e∈es,e.1.key=ek e.2.1∧e.1.val=ev e.2.2)∧(es.map (·.1.born)).Nodup∧(∀e∈es,e.1.born<clk)∧
  ((es.filter fun e=> !seen.contains e.1.born).map (·.2)).Perm a∧(∀p,cur=some p→ ∃e∈es,e.2=p∧seen.back? =some e.1.born)∧
  l= [(b,.map (es.map (·.1)).toArray clk),(r,.mapIter (some b) clk seen clk)]
theorem c1O {r b:Nat} {m a:List (κ×ν)} {cur:Option (κ×ν)} {w:World} {L:List a0E} (h:Sat w (t0R r b ek ev m a cur::L)):
 ∃(es:List (MapEntry×κ×ν)) (clk:Nat) (seen:Array Nat),es.map (·.2)=m∧(∀e∈es,e.1.key=ek e.2.1∧e.1.val=ev e.2.2)∧(es.map (·.1.born)).Nodup∧(∀e∈es,e.1.born<clk)∧
 ((es.filter fun e=> !seen.contains e.1.born).map (·.2)).Perm a∧(∀p,cur=some p→ ∃e∈es,e.2=p∧seen.back? =some e.1.born)∧
 Sat w (pts b (.map (es.map (·.1)).toArray clk)::pts r (.mapIter (some b) clk seen clk)::L):=by
 obtain⟨l,⟨s,q,rfl,⟨es,clk,seen,c,d,f,g,i,j,rfl⟩,k⟩,o,n⟩:=h;exact⟨es,clk,seen,c,d,f,g,i,j,_,⟨_,_,rfl,rfl,_,q,rfl,rfl,k⟩,o,n⟩
theorem o1K {r b:Nat} {m a:List (κ×ν)} {cur:Option (κ×ν)} {w:World} {L:List a0E} {es:List (MapEntry×κ×ν)} {clk:Nat} {seen:Array Nat} (c:es.map (·.2)=m) (d: ∀e∈es,e.1.key=ek e.2.1∧e.1.val=ev e.2.2)
 (f:(es.map (·.1.born)).Nodup) (g: ∀e∈es,e.1.born<clk) (i:((es.filter fun e=> !seen.contains e.1.born).map (·.2)).Perm a) (j: ∀p,cur=some p→ ∃e∈es,e.2=p∧seen.back? =some e.1.born)
 (h:Sat w (pts b (.map (es.map (·.1)).toArray clk)::pts r (.mapIter (some b) clk seen clk)::L)):Sat w (t0R r b ek ev m a cur::L):=by
 obtain⟨l,⟨s,t,rfl,rfl,u,q,rfl,rfl,k⟩,o,n⟩:=h;exact⟨_,⟨_,q,rfl,⟨es,clk,seen,c,d,f,g,i,j,rfl⟩,k⟩,o,n⟩
theorem u1T {r b:Nat} {m a:List (κ×ν)} {cur:Option (κ×ν)} {w:World} {L:List a0E} (h:Sat w (t0R r b ek ev m a cur::L)):Sat w (b0K b ek ev m::L):=by
 obtain⟨es,clk,seen,f,d,g,i,l,n,k⟩:=c1O h;refine x0C (es:=es.map (·.1)) (clk:=clk) ?_ (by simpa [List.map_map,Function.comp_def] using g) (fun e c=> ?_) ((k.perm (List.Perm.swap _ _ _)).tail)
 ·rw[←f,List.map_map,List.map_map];exact List.map_congr_left fun e c=>by simp[(d e c).1,(d e c).2]
 ·obtain⟨q,j,rfl⟩:=List.mem_map.1 c;exact i q j
def nxV (ek:κ→Value) (ev:ν→Value):Option (κ×ν)→Value
 |none=> .tuple #[.bool false]
 |some p=> .tuple #[.bool true,ek p.1,ev p.2]
section
variable {c:Cx} {ops:Array Oper} {Q:Exit→Act→World→Prop} {rest:List Oper} {env:List (Nat×Value)} {L M:List a0E} {d:Tmp} {ty:TypeId} {pos:String} {af:Array Edge}
theorem u1U {x:Operand} {t H C b:Nat} {m:List (κ×ν)} (l:q0I c.P t H C=true) (F:evo env x=some (.map (some b))) (hL:Fnd L (b0K b ek ev m) M)
 (h: ∀r,OW c ops Q rest ((d,.pointer (some ⟨r,0,none⟩))::env) (t0R r b ek ev m m none::M)) (hd:Nat.blt d c.n=true:=by rfl):OW c ops Q (⟨some d,.range t x,ty,pos,af,none⟩::rest) env L:=by
 intro a w f;obtain⟨es,clk,o,A,B,z⟩:=t0I (hL.sat f.sat);unfold q0I at l;split at l
 case h_2=>cases l
 rename_i k' I hu;refine wpList_plain rfl fun K D=> ?_;unfold Oper.wp;have g:(execOp a.eval ⟨some d,.range t x,ty,pos,af,none⟩).run c.P w= .ok (.value (.pointer (some ⟨w.heap.size,0,none⟩))) (w.alloc (.mapIter (some b) clk #[] clk)):=by
  simp[execOp,f.eval F,run_range_map w t _ _ b es.toArray clk hu z.pts]
 rw[g];have y:es.length=m.length:=by have:=congrArg List.length o;simpa using this
 have G: ∀i (u:i<es.length) (v:i<m.length),es[i].key=ek m[i].1∧es[i].val=ev m[i].2:=fun i u v=>by
  have:=congrArg (·[i]?) o;simp only[List.getElem?_map,List.getElem?_eq_getElem u,List.getElem?_eq_getElem v,Option.map_some,Option.some.injEq,Prod.mk.injEq]at this;exact this
 refine D _ _ (h w.heap.size _ _ ((⟨f.size,f.slots,f.defers,?_,f.like.alloc _⟩:b0J c env (t0R w.heap.size b ek ev m m none::M) a _).put d _ hd));have q:(es.zip m).map (·.1)=es:=List.map_fst_zip (by omega);have s:(es.zip m).map (·.2)=m:=List.map_snd_zip (by omega);refine o1K (es:=es.zip m) (clk:=clk) (seen:= #[]) s (fun e j=> ?_) ?_ (fun e j=> ?_) ?_ (fun p E=>by cases E) ?_
 ·obtain⟨i,hi,rfl⟩:=List.mem_iff_getElem.1 j;rw[List.getElem_zip];exact G i (by simp at hi;omega) (by simp at hi;omega)
 ·rw[show(es.zip m).map (fun e=>e.1.born)=((es.zip m).map (·.1)).map (·.born) by rw[List.map_map];rfl,q];exact A
 ·exact B e.1 (List.of_mem_zip j).1
 ·rw[List.filter_eq_self.2 (fun e _=>by simp),s]
 ·rw[q];exact(z.alloc _).perm (List.Perm.swap _ _ _)
theorem j2Y {P:Program} {w:World} {r b clk:Nat} {ty:TypeId} {seen:Array Nat} {es:Array MapEntry} (p:w.heap[r]? =some (.mapIter (some b) clk seen clk)) (hb:w.heap[b]? =some (.map es clk)) (c: ∀x∈es.toList,x.born<clk):
 ((leftOf es seen).toList= []∧(Instr.next (.pointer (some ⟨r,0,none⟩)) false ty).run P w= .ok (.tuple #[.bool false]) w)∨
 ∃e∈(leftOf es seen).toList,∃w1:World,(w1=w∨w1=w.drew)∧(Instr.next (.pointer (some ⟨r,0,none⟩)) false ty).run P w= .ok (.tuple #[.bool true,e.key,e.val]) (put w1 r (.mapIter (some b) clk (seen.push e.born) clk)):=by
 simp only[Instr.next,getObj,Sem.run_bind,Sem.run,p,hb,Result.andThen,next_test_false seen es clk clk c (Nat.le_refl _),Bool.false_eq_true,if_false];unfold leftOf;have a: ∀x∈(Array.filter (fun e=> !seen.contains e.born) es).toList,x.born<clk:=fun x d=>c x (by simp at d ⊢;exact d.1);generalize Array.filter (fun e=> !seen.contains e.born) es=Z at a ⊢;have q:Z.filter (fun x=>decide (x.born<clk))=Z:=Array.filter_eq_self.2 (fun x d=>by simpa using a x (by simpa using d));have s:Z.filter (fun x=>decide (x.born≥clk))= #[]:=by
  rw[Array.filter_eq_empty_iff];intro x d;have:=a x (by simpa using d);simp;omega
 simp only[q,s,Array.append_empty];by_cases m:Z.size=0
 ·left;have:Z= #[]:=Array.eq_empty_of_size_eq_zero m;subst this;refine⟨rfl,?_⟩;simp[choose,Sem.run,Question.forced]
 ·right;have k:Z.isEmpty=false:=by simp[Array.isEmpty,m]
  simp only[k,Bool.false_eq_true,if_false,Array.empty_append,Array.size_map];have i: ∃(j:Nat) (w1:World),j<Z.size∧(w1=w∨w1=w.drew)∧(choose (Question.mapNext Z.size)).run P w= .ok j w1:=by
   by_cases n:Z.size≤1
   ·exact⟨0,w,by omega,.inl rfl,by simp[choose,Sem.run,Question.forced,n]⟩
   ·exact⟨_,w.drew,Nat.mod_lt _ (by omega),.inr rfl,by
     simp only[choose,Sem.run,Question.forced,decide_eq_true_eq,n,if_false,Question.cut];rfl⟩
  obtain⟨j,w1,t,f,g⟩:=i;refine⟨Z[j],by simp,w1,f,?_⟩;have l:w1.heap[r]? =some (.mapIter (some b) clk seen clk):=by rcases f with rfl|rfl<;>exact p
  have h: ∀o',(setObj r o').run P w1= .ok () (put w1 r o'):=fun o'=>by
   simp only[setObj,Sem.run,l];rfl
  simp only[g,Array.getElem?_map,Array.getElem?_eq_getElem t,Option.map_some,Sem.run_bind,h,Result.andThen];rfl
theorem b2U {D:Operand} {r b:Nat} {m f:List (κ×ν)} {cur:Option (κ×ν)} (C:evo env D=some (.pointer (some ⟨r,0,none⟩))) (hL:Fnd L (t0R r b ek ev m f cur) M)
 (h: ∀(z:Option (κ×ν)) (o:List (κ×ν)),f.Perm (z.toList++o)→(z=none→f= [])→OW c ops Q rest ((d,nxV ek ev z)::env) (t0R r b ek ev m o z::M)) (hd:Nat.blt d c.n=true:=by rfl):
 OW c ops Q (⟨some d,.next D false,ty,pos,af,none⟩::rest) env L:=by
 intro a w k;obtain⟨es,clk,seen,T,E,u,F,G,a6,B⟩:=c1O (hL.sat k.sat);refine wpList_plain rfl fun K U=> ?_;unfold Oper.wp;have l:(leftOf (es.map (·.1)).toArray seen).toList=(es.filter fun e=> !seen.contains e.1.born).map (·.1):=by
  unfold leftOf;rw[Array.toList_filter,List.filter_map];rfl
 have W: ∀res S,(Instr.next (.pointer (some ⟨r,0,none⟩)) false ty).run c.P w= .ok res S→(execOp a.eval ⟨some d,.next D false,ty,pos,af,none⟩).run c.P w= .ok (.value res) S:=fun res S e=>by
  simp[execOp,k.eval C,e]
 rcases j2Y (P:=c.P) (ty:=ty) (B.perm (List.Perm.swap _ _ _)).pts B.pts (fun x C=>by
  obtain⟨q,N,rfl⟩:=List.mem_map.1 (by simpa using C:x∈es.map (·.1));exact F q N)with ⟨h0,hr⟩| ⟨e,he,w1,hw1,hr⟩
 ·rw[W _ _ hr];rw[l,List.map_eq_nil_iff]at h0;have X:f= []:=by rw[h0]at G;exact(List.Perm.nil_eq G).symm
  refine U _ _ (h none [] (by rw[X];exact List.Perm.refl _) (fun _=>X) _ _ ((⟨k.size,k.slots,k.defers,?_,k.like⟩:b0J c env (t0R r b ek ev m [] none::M) a w).put d _ hd));exact o1K T E u F (by rw[h0];exact List.Perm.refl _) (fun p J=>by cases J) B
 ·rw[W _ _ hr];rw[l]at he;obtain⟨q,N,rfl⟩:=List.mem_map.1 he;obtain⟨s,O⟩:=List.mem_filter.1 N;have y:=E q s;have R:Sat w1 (pts b (.map (es.map (·.1)).toArray clk)::pts r (.mapIter (some b) clk seen clk)::M):=by rcases hw1 with rfl|rfl;(exact B);exact B.drew
  have H:d0S c.w0 w1:=by rcases hw1 with rfl|rfl;(exact k.like);exact k.like.drew
  have hv:(Value.tuple #[.bool true,q.1.key,q.1.val])=nxV ek ev (some q.2):=by simp[nxV,y.1,y.2]
  rw[hv]
  -- those that are left behind D
  have v: ∀x∈es,x.1.born=q.1.born→x=q:=fun x C e=>by
   obtain⟨i,hi,rfl⟩:=List.mem_iff_getElem.1 C;obtain⟨j,V,rfl⟩:=List.mem_iff_getElem.1 s;have:i=j:=by
    refine Classical.byContradiction fun I=> ?_;rcases Nat.lt_or_gt_of_ne I with g|g
    ·exact List.pairwise_iff_getElem.1 u i j (by simpa using hi) (by simpa using V) g (by simpa using e)
    ·exact List.pairwise_iff_getElem.1 u j i (by simpa using V) (by simpa using hi) g (by simpa using e.symm)
   subst this;rfl
  have A:es.Nodup:=(List.pairwise_map.1 u).imp fun h e=>h (by rw[e]);have t:(es.filter fun e=> !seen.contains e.1.born).Perm (q::es.filter fun e=> !(seen.push q.1.born).contains e.1.born):=by
   refine(List.perm_ext_iff_of_nodup (A.filter _) ?_).2 fun x=> ?_
   ·refine List.nodup_cons.2 ⟨fun Z=> ?_,A.filter _⟩;have:=(List.mem_filter.1 Z).2;simp at this
   ·rw[List.mem_filter,List.mem_cons,List.mem_filter];constructor
    ·rintro⟨h1,h2⟩;by_cases e:x=q
     ·exact .inl e
     ·refine .inr ⟨h1,?_⟩;have: ¬x.1.born=q.1.born:=fun Y=>e (v x h1 Y);simp at h2 ⊢;exact⟨h2,this⟩
    ·rintro(rfl| ⟨h1,h2⟩)
     ·exact⟨s,O⟩
     ·simp at h2;exact⟨h1,by simpa using h2.1⟩
  refine U _ _ (h (some q.2) ((es.filter fun e=> !(seen.push q.1.born).contains e.1.born).map (·.2)) ?_ (fun e=>by cases e) _ _ ((⟨k.size,k.slots,k.defers,?_,H.put _ _⟩:b0J c env (t0R r b ek ev m _ (some q.2)::M) a _).put d _ hd))
  ·exact G.symm.trans (by simpa using t.map (·.2))
  ·refine o1K T E u F (List.Perm.refl _) (fun p J=>⟨q,s,by cases J;rfl,by simp⟩) ?_;exact((R.perm (List.Perm.swap _ _ _)).put).perm (List.Perm.swap _ _ _)
theorem s2N {x:Operand} {z:Option (κ×ν)} {dd:Option Tmp} {g:Option (Nat×Bool)} (a:evo env x=some (nxV ek ev z)):a0P c ⟨dd,.extract x 0,ty,pos,af,g⟩ env L (.bool z.isSome):=by
 cases z with
 |none=>exact d2L (vs:= [.bool false]) a rfl
 |some p=>exact d2L (vs:= [.bool true,ek p.1,ev p.2]) a rfl
theorem b2V {k:Operand} {r b:Nat} {m e:List (κ×ν)} {p:κ×ν} {dd:Option Tmp} {g:Option (Nat×Bool)} (u:evo env k=some (.pointer (some ⟨r,0,none⟩))) (hL:Fnd L (t0R r b ek ev m e (some p)) M):
 a0P c ⟨dd,.entry k,ty,pos,af,g⟩ env L (.tuple #[ek p.1,ev p.2]):=by
 intro a w h;obtain⟨es,clk,seen,v,l,n,x,y,o,j⟩:=c1O (hL.sat h.sat);obtain⟨q,i,rfl,f⟩:=o _ rfl;have t:=(j.perm (List.Perm.swap _ _ _)).pts;have s:(es.map (·.1)).toArray.find? (·.born == q.1.born)=some q.1:=by
  rw[←Array.find?_toList];exact find_born q.1 _ (by simpa [List.map_map,Function.comp_def] using n) (List.mem_map.2 ⟨q,i,rfl⟩)
 have d:=l q i;simp only[execOp,h.eval u,Instr.entry,getObj,Sem.run_bind,Sem.run,t,j.pts,Result.andThen,f,bne_self_eq_false,Bool.false_eq_true,if_false,s];rw[d.1,d.2];rfl
end
end
end
end Go.Sl
namespace Go.Proofs.Q
section
open Go
end
end Go.Proofs.Q
namespace Go.Sl
open Go.Sort
theorem j2Z {w a:World} {L:List a0E} (h:Sat w L) (g: ∀(b:Nat) (o:Obj),w.heap[b]? =some o→a.heap[b]? =some o):Sat a L:=by
 obtain⟨l,c,d,e⟩:=h;exact⟨l,c,d,fun b o f=>g b o (e b o f)⟩
theorem p2A {w:World} {g k:Nat} {e:TypeId} {cur:List Value} {zs:List Int} {os:Array Obj} {L:List a0E} (h:Sat w (pts g (.cells cur.toArray e (0,0))::L)) (l:zs.length≤cur.length):
 Sat (grow (putRow (Value.int .i64) (Sort.ahead w k) g 0 zs.toArray) os) (pts g (.cells (zs.map (Value.int .i64)++cur.drop zs.length).toArray e (0,0))::L):=by
 have j:=h.pts;refine j2Z (h.put (o':= .cells (zs.map (Value.int .i64)++cur.drop zs.length).toArray e (0,0))) fun b o hb=> ?_;have d:=r0F j;simp only[Sl.put,Array.getElem?_setIfInBounds]at hb;have c:b<w.heap.size:=by
  rcases Nat.lt_or_ge b w.heap.size with a|a
  ·exact a
  ·split at hb
   ·omega
   ·rw[Array.getElem?_eq_none a]at hb;cases hb
 simp only[grow,putRow,mapBlock,Sort.ahead,Array.getElem?_append,Array.size_modify,if_pos c,Array.getElem?_modify];by_cases f:g=b
 ·subst f;rw[if_pos rfl,if_pos d]at hb;rw[if_pos rfl,j];cases hb
  simp only[Option.map_some,onCells,Option.some.injEq,Obj.cells.injEq,and_true];apply Array.ext_getElem?;intro i;simp only[putCells,Array.getElem?_mapIdx,List.getElem?_toArray,Nat.zero_le,true_and,Nat.zero_add,List.size_toArray,Nat.sub_zero,List.getElem?_append,List.length_map,List.getElem?_map,List.getElem?_drop];by_cases hi:i<zs.length
  ·rw[if_pos hi,List.getElem?_eq_getElem (show i<cur.length by omega),List.getElem?_eq_getElem hi];simp[hi]
  ·rw[if_neg hi,show zs.length+(i-zs.length)=i by omega];cases cur[i]? with
   |none=>rfl
   |some v=>simp[hi]
 ·rw[if_neg f]at hb ⊢;exact hb
theorem k2A {P:Program} {f:FuncId} {e:TypeId}
 (z: ∀(a off cap:Nat) (zs:List Int) (w:World),Go.Sort.Holds (Value.int .i64) w a off zs.toArray→a<w.heap.size→zs.length<4611686018427387904→Calls P f #[.slice (some ⟨a,off,none⟩) zs.length cap] w fun e d=>e= .returned (.tuple #[])∧ ∃n os,d=grow (putRow (Value.int .i64) (Sort.ahead w n) a off (zs.mergeSort fun x y=>decide (x≤y)).toArray) os)
 (hN: ∀(p:Option Addr) (cap:Nat) (w:World),Calls P f #[.slice p 0 cap] w fun e d=>e= .returned (.tuple #[])∧d=w)
 (v:Value) (zs:List Int) (H:zs.length<1000000):
 a0G P f #[v] [b0I e 1 v zs.length (zs.map (Value.int .i64))] (b0P (fun ys:List Int=>ys.length=zs.length) (fun _=> .tuple #[]) (fun ys=> [b0I e 1 v zs.length (ys.map (Value.int .i64))])):=by
 intro w F C;have c:Sat w (b0I e 1 v zs.length (zs.map (Value.int .i64)):: [F]):=C;obtain⟨G,A⟩:=f0O c;rcases A with ⟨rfl,i,o⟩| ⟨g,cap,cur,rfl,o,t,E,u,q⟩
 ·rw[i];have D:zs= []:=List.length_eq_zero_iff.1 i;refine(hN none 0 w).mono ?_;rintro en d ⟨rfl,rfl⟩;exact⟨_,⟨zs,i,rfl,rfl⟩,by rw[i]at c;exact c,d0S.refl _⟩
 ·have B:zs.length≤cur.length:=by omega
  have g0X: ∀j (h:j<zs.length),cur[j]? =some (.int .i64 zs[j]):=fun j h=>by
   have:=congrArg (·[j]?) u;simp only[List.getElem?_take,Nat.mul_one,if_pos h,List.getElem?_map,List.getElem?_eq_getElem h,Option.map_some]at this;exact this
  have l:=q.pts;refine(z g 0 cap zs w (fun j r=> ?_) (r0F l) (by omega)).mono ?_
  ·have m:j<zs.length:=by simpa using r
   refine⟨?_,?_⟩
   ·have s:zs.toArray[j]! =zs[j]:=by rw[getElem!_pos _ j r];simp
    rw[s];simp[World.cell?,l,g0X j m]
   ·simp[World.frozen?,l]
  ·rintro en d ⟨rfl,n,os,rfl⟩;have b:(zs.mergeSort fun x y=>decide (x≤y)).length=zs.length:=List.length_mergeSort _;have:=p2A (k:=n) (os:=os) q (zs:=zs.mergeSort fun x y=>decide (x≤y)) (by omega);refine⟨_,⟨zs.mergeSort fun x y=>decide (x≤y),b,rfl,rfl⟩,r0J this o t ?_ ?_,rfl,rfl,rfl⟩
   ·rw[List.length_append,List.length_map,List.length_drop,b];omega
   ·rw[List.take_left'];rw[List.length_map,b,Nat.mul_one]
theorem y1W {c:Cx} {Q:Exit→Act→World→Prop} {env:List (Nat×Value)} {L M:List a0E} {y:Code} {e:TypeId} {size:Nat} {v:Value} {n:Nat} {xs:List Value} (hL:Fnd L (b0I e size v n xs) M)
 (g:v= .slice none 0 0→n=0→CW c y Q env L) (h: ∀b cap,v= .slice (some ⟨b,0,none⟩) n cap→n≤cap→CW c y Q env L):CW c y Q env L:=fun a w d=>by
 obtain⟨j,i⟩:=f0O (hL.sat d.sat);rcases i with ⟨rfl,rfl,_⟩| ⟨b,cap,cur,rfl,f,_⟩
 ·exact g rfl rfl a w d
 ·exact h b cap rfl f a w d
theorem u1V {c:Cx} {env:List (Nat×Value)} {L:List a0E} {d:Option Tmp} {ty:TypeId} {pos:String} {af:Array Edge} {g:Option (Nat×Bool)} {x y:Operand} {t yt:TypeId} {X Y:List Value} {j:List Nat} {b:Bool} (e:n1S c.P t=some j)
 (n:evo env x=some (.agg X.toArray)) (o:evo env y=some (.agg Y.toArray)) (hb:eqK j X Y=some b):a0P c ⟨d,.binOp .neq t x y yt,ty,pos,af,g⟩ env L (.bool (!b)):=by
 intro a w h;unfold n1S at e;split at e
 case h_2=>cases e
 rename_i k hu;split at e
 case isFalse=>cases e
 rename_i i;simp only[Bool.and_eq_true,Bool.not_eq_true']at i;have f:c.P.fieldsOf t=k:=by simp[Program.fieldsOf,hu]
 have l:(Op.equalIn (9999+1) t (.agg X.toArray) (.agg Y.toArray)).run c.P w= .ok b w:=by
  rw[run_equalIn_struct w 9999 t _ _ (by rw[f];exact hu) i.1,f];exact g1K 9998 w X Y k.toList 0 j b e (by simpa using hb)
 have m:(binOp .neq t (.agg X.toArray) (.agg Y.toArray)).run c.P w= .ok (.bool (!b)) w:=by
  rw[run_neq_struct];rw[show(10000:Nat)=9999+1 from rfl,l];rfl
 simp only[execOp,h.eval n,h.eval o,Sem.run_bind,run_eqGuard_agg w .neq t x y _ _ i.2,Result.andThen_ok,m,Sem.run_pure]
theorem z0F {c:Cx} {ops:Array Oper} {Q:Exit→Act→World→Prop} {rest:List Oper} {env:List (Nat×Value)} {L M:List a0E} {e:TypeId} {size:Nat} {v:Value} {n:Nat} {xs:List Value} (hL:Fnd L (b0I e size v n xs) M) (h:v.oneCell'=true→OW c ops Q rest env L):OW c ops Q rest env L:=fun a w b=>h (n1O (hL.sat b.sat)) a w b
end Go.Sl
namespace Go.Proofs.Q
section
open Go
end
section
open Go
end
section
open Go
end
section
open Go
end
section
open Go
end
section
open Go
end
section
open Go
end
section
open Go
end
section
open Go
end
section
open Go
end
section
open Go
end
end Go.Proofs.Q
namespace Go.Sb
section
section
variable {G:Gh} {s0 s w:St} {S P R:List Int} {T:Int→Nat}
theorem u1W {x k:Int} : ∀ {S:List Int},x∈S→kc G k x≤i0D G S k
 | [],h=>by cases h
 |y::S,h=>by
  rw[c1M];rcases List.mem_cons.1 h with rfl|h
  ·omega
  ·have:=u1W (k:=k) h;omega
theorem e2Y {S a:List Int} (h:S.Perm a) (x:Int):i0D G S x=i0D G a x:=(h.map _).sum_nat
theorem e2Z (a:mok G) (x:Int):i0D G (G.map (·.1)) x=n0C G x:=by
 unfold i0D n0C;rw[List.map_map];refine congrArg List.sum (List.map_congr_left fun p b=> ?_);show kc G x p.1=_;unfold kc;rw[(e0D a).2 (show(p.1,p.2)∈G from b)]
theorem AI.cls (h:AI G s0 s S T []):Cls G 4 S:=fun x d o c _ k b a=>by
 have e:kc G k x≤i0D G S k:=u1W d;have f:0<kc G k x:=by unfold kc;rw[c];exact List.count_pos_iff.2 b
 exact((h.live k a).1 (by omega)).resolve_right fun g=>by cases g
theorem AI.perm (h:AI G s0 s S T []) (e:Inv w G P) (f: ∀p∈P,p≠0→T p≠0):S.Perm (G.map (·.1)):=by
 have d: ∀p∈P,p≠0→p∈S:=fun p d b=>((h.live p b).1 (by have:=f p d b;omega)).resolve_right fun g=>by cases g
 refine(List.perm_ext_iff_of_nodup h.nod (show(G.map (·.1)).Nodup from e.nod)).2 fun a=>⟨fun c=>u0M.1 (h.some_ a (.inl c)),fun c=> ?_⟩;obtain⟨o,i⟩:=Option.isSome_iff_exists.1 (u0M.2 c);exact e.allSeen d h.cls 4 a o i (by omega)
theorem AI.inv {bits:Nat} {n:Int} (h:AI G (f0X w.d 2 bits n) s S T []) (c:Inv w G P) (z: ∀x,T x=R.count x) (B: ∀p∈P,p∈R) (D: ∀p∈P,a0W G 3 p) (C: ∀r∈R,a0W G 3 r) (F:mok s.vols):Inv s G R∧S.length=G.length:=by
 have m:=h.perm c fun p m _=>by rw[z];exact Nat.ne_of_gt (List.count_pos_iff.2 (B p m))
 have y: ∀a,a∈S↔(a0C a G).isSome=true:=fun a=>by rw[u0M];exact m.mem_iff
 have i: ∀a,(a∈S∨a∈([]:List Int))↔(a0C a G).isSome=true:=fun a=>by rw[←y];exact⟨fun g=>g.resolve_right fun g=>(by cases g),.inl⟩
 have A: ∀a,T a+i0D G S a=f0C G R a:=fun a=>by rw[z,e2Y m,e2Z c.nod];rfl
 have q:S.length=G.length:=by rw[m.length_eq,List.length_map]
 have j:s.fr=2:=h.same.fr;have hd:s.d=w.d:=h.same.d;have k:s.g.length=w.d.l.length-2:=by
  rw[h.gl];exact List.length_replicate
 refine⟨⟨⟨⟨h.mrefs,by rw[h.same.young];exact List.nodup_nil,h.mindex,F⟩,by rw[h.same.keep];exact Int.le_refl _,fun a f=> ?_,by rw[hd];exact c.u.run,?_,by rw[h.same.gone];exact⟨List.nodup_nil,fun a f=>by cases f⟩⟩,
  c.nod,j,by rw[j];exact h.hi,fun a f=>by rw[←A];exact h.refs a f,fun a f=>by rw[←A,h.live a f,i],c.zero,fun a=>by rw[h.held,i],fun a o E=>by rw[hd];exact c.disk a o E,c.typ,?_,fun a b hb=> ?_⟩,q⟩
 ·by_cases t:a=0
  ·subst t;exact(f h.zr).elim
  ·refine(h.held a).2 ((h.live a t).1 fun e=>f ?_);rw[h.refs a t,if_pos e]
 ·rw[hd,j,k];have:=c.u.size;have:=c.lo;omega
 ·have:=h.cnt;rw[←q];simpa using this.symm
 ·have v:=c.lone a b hb;unfold f0C at v ⊢;have no: ∀l:List Int,(∀r∈l,a0W G 3 r)→l.count a=0:=fun l q=>List.count_eq_zero.2 fun g=>by
   have:=g1U (q a g) (c.ne0 hb) hb;simp only[lev]at this;omega
  rw[no P D]at v;rw[no R C];exact v
end
theorem J.adopted {w:St} {G:Gh} {P:Rp} (h:J w G P) (hb:1≤w.bits∧w.bits≤256): ∃s',s0C ((P.l.map (·.id)).map fun k=>(a0C k w.vols).getD g0L) (f0X w.d 2 w.bits w.next)=(.ok (),s')∧J s' G {P with epoch:=1} ∧s'.d=w.d∧s'.g.count 1=w.g.count 1:=by
 obtain⟨L,hL⟩: ∃L,L=(P.l.map (·.id)).map fun k=>(a0C k w.vols).getD g0L:=⟨_,rfl⟩;have n: ∀x∈L,∃v∈P.l,a0C v.id w.vols=some x∧u1L G v x∧x.id=v.id:=fun x f=>by
  rw[hL,List.map_map]at f;obtain⟨v,c,rfl⟩:=List.mem_map.1 f;obtain⟨x,i,z⟩:=h.vol v c;have A:=(h.ci.ids _ (h.ci.mem i)).1;refine⟨v,c,?_,?_,?_⟩<;>simp only[Function.comp,i,Option.getD_some]
  ·exact z
  ·exact A
 have H: ∀v∈P.l,∃x∈L,a0C v.id w.vols=some x:=fun v c=>by
  obtain⟨x,i,_⟩:=h.vol v c;exact⟨x,by rw[hL,List.map_map];exact List.mem_map.2 ⟨v,c,by simp only[Function.comp,i,Option.getD_some]⟩,i⟩
 have o:L.map (·.id)=P.l.map (·.id):=by
  rw[hL,List.map_map,List.map_map];refine List.map_congr_left fun v c=> ?_;obtain⟨x,i,_⟩:=h.vol v c;have A:=(h.ci.ids _ (h.ci.mem i)).1;simp only[Function.comp,i,Option.getD_some];exact A
 have F:(P.l.map (·.id)).Nodup:=List.Pairwise.imp (fun h=>Int.ne_of_lt h) (List.pairwise_map.2 h.ord);have t:L.length=P.l.length:=by rw[hL];simp
 have D:L.length≤16:=by rw[t,←h.len];exact h.ci.few
 have y: ∀x∈L,a0W G 3 x.root:=fun x f=>by
  obtain⟨v,c,i,_⟩:=n x f;exact h.ci.kid _ (h.ci.mem i)
 have C:(f0X w.d 2 w.bits w.next).bits=w.bits:=by show min (max w.bits 1) 256=_;omega
 rw[←hL];obtain⟨s',Y,e,B,c⟩:=AI.all (s0:=f0X w.d 2 w.bits w.next) h.ci.inv h.ci.idx rfl C L [] (m:=0) (AI.start h.ci.inv w.bits w.next) y (fun _=>Nat.le_refl _) (by omega) (fun _ _ _=>rfl) rfl (by rw[List.nil_append,o];exact F);rw[List.nil_append]at c;have E:mok s'.vols:=by
  show(s'.vols.map (·.1)).Nodup;rw[c,List.map_map];show(L.map (·.id)).Nodup;rw[o];exact F
 have Q:g0Q s'=L.map (·.root):=by unfold g0Q;rw[c,List.map_map];rfl
 obtain⟨I,T⟩:=B.inv (R:=L.map (·.root)) h.ci.inv (fun x=>by show 0+_=_;rw[Nat.zero_add]) (fun p j=>by
  obtain⟨q,K,rfl⟩:=List.mem_map.1 j;obtain⟨v,c,M⟩:=h.back q K;obtain⟨x,f,W⟩:=H v c;have U:=(e0D h.ci.inv.u.m.vols).2 (show(q.1,q.2)∈w.vols from K);rw[←M,W]at U;cases U;exact List.mem_map.2 ⟨_,f,rfl⟩) (fun p j=>by
  obtain⟨q,K,rfl⟩:=List.mem_map.1 j;exact h.ci.kid q K) (fun r X=>by
  obtain⟨x,f,rfl⟩:=List.mem_map.1 X;exact y x f) E
 have O: ∀x∈L,a0C x.id s'.vols=some x:=fun x f=>(e0D E).2 (by rw[c];exact List.mem_map.2 ⟨x,f,rfl⟩);have b:=B.same;refine⟨s',e,⟨⟨by rw[Q];exact I,fun k a=> ?_,fun p j=> ?_,fun p j=> ?_,b.depth,b.log,b.gone,by rw[c,List.length_map];exact D⟩,?_,h.pos,by rw[b.bits,C];exact h.bits,b.epoch,by rw[c,List.length_map];exact t,h.ord,h.ids,fun v c=> ?_,fun p j=> ?_⟩,b.d,?_⟩
 ·rw[B.idx k a];refine⟨fun g=>g.2,fun g=>⟨?_,g⟩⟩;obtain⟨d,ats,N,_⟩:=g;exact(((I.live a (I.ne0 N)).2 (by rw[N];rfl)) |> fun g=>((B.held a).1 ((I.held a).2 (by rw[N];rfl))).resolve_right fun g=>by cases g)
 ·rw[c]at j;obtain⟨x,f,rfl⟩:=List.mem_map.1 j;exact y x f
 ·rw[c]at j;obtain⟨x,f,rfl⟩:=List.mem_map.1 j;obtain⟨v,_,i,_⟩:=n x f;exact⟨rfl,(h.ci.ids _ (h.ci.mem i)).2⟩
 ·rw[b.next];show max w.next 1=P.next;have:=h.next;have:=h.pos;omega
 ·obtain⟨x,f,i⟩:=H v c;obtain⟨Z,z,A⟩:=h.vol v c;rw[i]at z;cases z;have V:=O x f;rw[(h.ci.ids _ (h.ci.mem i)).1]at V;exact⟨x,V,A⟩
 ·rw[c]at j;obtain⟨x,f,rfl⟩:=List.mem_map.1 j;obtain⟨v,c,_,_,M⟩:=n x f;exact⟨v,c,M.symm⟩
 ·have i:=B.cnt;have z:=h.ci.inv.cnt;rw[i,T,z];rfl
end
end Go.Sb
namespace Go.Proofs.Q
section
open Go
end
end Go.Proofs.Q
namespace Go.Sb
theorem x2X (bits:Nat) (hb:1≤bits∧bits≤256):J (f0X (k0Q (2498+2)) 2 bits 1) [] (rp0 bits):=
 ⟨CI.new (n:=2498) (bits:=bits) (by omega),rfl,(by decide:(1:Int)≤1),by show min (max bits 1) 256=bits;omega,rfl,rfl,List.Pairwise.nil,fun v a=>(by cases a),fun v a=>(by cases a),fun p b=>(by cases b)⟩
theorem p2B (bits:Nat):Bud 0 (f0X (k0Q (2498+2)) 2 bits 1) (rp0 bits):=
 ⟨0,0,Nat.le_refl _,fun v a=>(by cases a),by have h:=u1B 2498 bits;omega⟩
end Go.Sb
namespace Go.Proofs.Q
section
open Go
end
end Go.Proofs.Q
namespace Go.Sl
open Go.ChangeShapes Go.WideShapes Go.ChangeAt Go.RowKit
section
def p2C (a b c d:Int) (s:ByteArray):List Value:= [.int .i64 a,.int .i64 b,.int .i64 c,.int .i64 d,.string s]
section
variable {H:Type} {enc:TypeId×Value→H} {P:Program} {W:World} {base:Nat} {sp:Nat→Bool} {hd:Bool}
theorem k2B {t:TypeId} {e j k l m:Field} {fuel:Nat} {cs:List Value} {x:DataW H×List MemPlace} (M:P.underlying t=some (.struct #[e,j,k,l,m])) (J:P.cellsOf t=5)
 (p:e.offset=0∧P.cellsOf e.type=1∧P.underlying e.type=some (.int .i64)) (q:j.offset=1∧P.cellsOf j.type=1∧P.underlying j.type=some (.int .i64))
 (r:k.offset=2∧P.cellsOf k.type=1∧P.underlying k.type=some (.int .i64)) (u:l.offset=3∧P.cellsOf l.type=1∧P.underlying l.type=some (.int .i64))
 (v:m.offset=4∧P.cellsOf m.type=1∧P.underlying m.type=some .string) (h:DataW.trod enc P W base sp hd fuel t cs=some x): ∃a b c d s,cs=p2C a b c d s:=by
 obtain⟨xs,n,_,_,I,o,K⟩:=DataW.trod_struct M h;rw[J]at I;have N:xs.length=5:=o
 match cs,I with
 | [c0,c1,c2,c3,c4],_=>
  have g: ∀(i:Nat) (f:Field),#[e,j,k,l,m][i]? =some f→ ∃y,DataW.trod enc P W base sp hd n f.type ((([c0,c1,c2,c3,c4]:List Value).drop f.offset).take (P.cellsOf f.type))=some y:=fun i f hi=>by
   have L:i<5:=(Array.getElem?_eq_some_iff.1 hi).1;refine⟨xs[i]'(by omega),?_⟩;rw[K i f hi,List.getElem?_eq_getElem (by omega)]
  obtain⟨O,C⟩:=g 0 e rfl;obtain⟨Q,D⟩:=g 1 j rfl;obtain⟨R,E⟩:=g 2 k rfl;obtain⟨S,F⟩:=g 3 l rfl;obtain⟨T,G⟩:=g 4 m rfl;rw[p.1,p.2.1]at C;rw[q.1,q.2.1]at D;rw[r.1,r.2.1]at E;rw[u.1,u.2.1]at F;rw[v.1,v.2.1]at G;obtain⟨a,e0,_⟩:=DataW.trod_int p.2.2 C;obtain⟨b,w,_⟩:=DataW.trod_int q.2.2 D;obtain⟨c,z,_⟩:=DataW.trod_int r.2.2 E;obtain⟨d,A,_⟩:=DataW.trod_int u.2.2 F;obtain⟨s,B,_⟩:=DataW.trod_string v.2.2 G;simp only[List.drop_zero,List.drop_succ_cons,List.take_succ_cons,List.take_zero,List.cons.injEq,and_true]at e0 w z A B;exact⟨a,b,c,d,s,by rw[e0,w,z,A,B];rfl⟩
theorem k2C {r:Reach} {b0:Nat} {t e:TypeId} {j k l m o:Field} {v:Value} {dd:DataW H} {ps:List MemPlace} (F:P.underlying t=some (.slice e)) (S:P.underlying e=some (.struct #[j,k,l,m,o])) (C:P.cellsOf e=5)
 (L:j.offset=0∧P.cellsOf j.type=1∧P.underlying j.type=some (.int .i64)) (M:k.offset=1∧P.cellsOf k.type=1∧P.underlying k.type=some (.int .i64))
 (N:l.offset=2∧P.cellsOf l.type=1∧P.underlying l.type=some (.int .i64)) (O:m.offset=3∧P.cellsOf m.type=1∧P.underlying m.type=some (.int .i64))
 (Q:o.offset=4∧P.cellsOf o.type=1∧P.underlying o.type=some .string) (g:Value.okWide P W r b0 t v) (h:DataW.Trod enc P W base sp hd t v dd ps):
 ∃(p:Option Addr) (n cap:Nat),v= .slice p n cap∧n≤maxLen∧ ∀i,i<n→ ∃A,p=some A∧ ∃a b c d s,∀q u,(p2C a b c d s)[q]? =some u→W.cell? ((A.add (i*5)).add q)=some u:=by
 obtain⟨T,len,cap,rfl⟩:=okWide_slice F g;obtain⟨fuel,R⟩:=h;rcases DataW.trod_slice F R with ⟨f,_⟩| ⟨A,G,z,w,rest,n,_,f,_,hb,U,V,D,x,_,_⟩
 ·simp[Value.cells]at f;obtain⟨rfl,rfl,rfl⟩:=f;exact⟨none,0,0,rfl,Nat.zero_le _,fun i hi=>absurd hi (Nat.not_lt_zero _)⟩
 ·simp[Value.cells]at f;obtain⟨rfl,rfl,rfl⟩:=f;refine⟨some A,len,cap,rfl,by omega,fun i hi=>⟨A,rfl,?_⟩⟩;have B:=x i hi;rw[C,List.getElem?_eq_getElem (by omega),Option.bind_eq_some_iff]at B;obtain⟨cs',I,J⟩:=B;obtain⟨a,b,c,d,s,rfl⟩:=k2B S C L M N O Q J;obtain⟨_,_,K⟩:=World.cells?_some I;exact⟨a,b,c,d,s,fun q u E=>by
   have y:q<5:=(List.getElem?_eq_some_iff.1 E).1;rw[K q y];exact E⟩
end
end
end Go.Sl

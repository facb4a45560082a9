/- Part of the proof; no statement of its own. -/
import Derived.Test.YtpinhnikemamjaaGreatDoorD03
import Derived.Laws.MakeOwn
import Derived.Laws.Tables
import Derived.Laws.IdiomStrings
import Derived.Test.YtpinhnikemamjaaGreatDoorD01
import Derived.Laws.BitsLemmas
import Derived.ProofKit
import Derived.WalkKit
import Derived.OpenShut
import Derived.JoinedCond
import Derived.Carry
import Derived.Recover
import Derived.Laws.StructEq
set_option linter.all false
set_option maxRecDepth 4000
set_option maxHeartbeats 4000000
namespace Go.Sl
open Go.BigFrame
section
def i1L (P:Program) (t:TypeId):Option (List (Nat×Nat)×Value):=
 match P.info? t,P.underlying t with
 |some it,some (.struct fields)=>
  match it.zero,fields.toList.mapM (fun f=>(P.info? f.type).map fun i=>(f.offset,i.size))with
  |some z,some places=>some (places,z)
  |_,_=>none
 |_,_=>none
def m0O (a:Nat→Option (Nat×Nat)):List Value→List (Nat×List Value)→Option (List Value)
 |cs,[]=>some cs
 |cs,(i,vs)::r=>match a i with
  |some (off,size)=>match Nat.beq vs.length size&&Nat.ble (off+vs.length) cs.length with
   |true=>m0O a (cs.take off++(vs++cs.drop (off+vs.length))) r
   |false=>none
  |none=>none
theorem a2T (off:Nat): ∀(l:List Value) (k:Nat) (cs:Array Value),off+k+l.length≤cs.size→
 (l.zipIdx k).foldl (fun cs (c,j)=>cs.setIfInBounds (off+j) c) cs=(cs.toList.take (off+k)++(l++cs.toList.drop (off+k+l.length))).toArray
 | [],k,cs,h=>by simp
 |v::l,k,cs,h=>by
  simp only[List.length_cons]at h;rw[List.zipIdx_cons,List.foldl_cons,a2T off l (k+1) _ (by simp;omega)];apply Array.ext';simp only[Array.toList_setIfInBounds,List.length_cons];apply List.ext_getElem?;intro n;simp only[List.getElem?_append,List.length_take,List.length_set,Array.length_toList,List.getElem?_take,List.getElem?_drop,List.getElem?_set,List.length_cons,List.getElem?_cons];rw[Nat.min_eq_left (by omega),Nat.min_eq_left (by omega)];by_cases a:n<off+k
  ·simp[a,show n<off+(k+1) by omega,show ¬off+k=n by omega]
  ·by_cases d:n=off+k
   ·subst d;simp[show off+k<off+(k+1) by omega,show off+k<cs.size by omega]
   ·simp only[show ¬n<off+(k+1) by omega,a,if_false];by_cases b:n- (off+(k+1))<l.length
    ·simp only[b,show n- (off+k)<l.length+1 by omega,if_true];rw[if_neg (by omega)];congr 1
    ·simp only[b,show ¬n- (off+k)<l.length+1 by omega,if_false];rw[if_neg (by omega)];congr 1;omega
theorem w0J {a:Nat→Option (Nat×Nat)} : ∀(parts:List (Nat×Value)) (cs:Array Value) (out:List Value),m0O a cs.toList (parts.map fun(i,v)=>(i,v.cells.toList))=some out→
 Instr.fill a cs parts=some out.toArray
 | [],cs,out,h=>by simp[m0O]at h;subst h;simp[Instr.fill]
 | (i,v)::r,cs,out,h=>by
  simp only[List.map_cons,m0O]at h;split at h
  ·rename_i off size l;split at h
   ·rename_i hb;simp only[Bool.and_eq_true,Nat.ble_eq,Array.length_toList]at hb;have b:v.cells.size=size:=by have:=Nat.eq_of_beq_eq_true hb.1;simpa using this
    have d:=hb.2;have e:=a2T off v.cells.toList 0 cs (by simpa using hb.2);have f:v.cells.zipIdx.foldl (fun cs (c,j)=>cs.setIfInBounds (off+j) c) cs=(cs.toList.take off++(v.cells.toList++cs.toList.drop (off+v.cells.toList.length))).toArray:=by
     rw[←Array.foldl_toList,Array.toList_zipIdx];simpa using e
    have g:=w0J r ((cs.toList.take off++(v.cells.toList++cs.toList.drop (off+v.cells.toList.length))).toArray) out (by simpa using h);simp only[Instr.fill,l,f];rw[if_neg (by simp only[Bool.or_eq_true,decide_eq_true_eq];intro k;cases k with|inl h6=>exact h6 b|inr h6=>exact absurd d (Nat.not_le.2 h6))];exact g
   ·cases h
  ·cases h
section
variable {c:Cx} {ops:Array Oper} {Q:Exit→Act→World→Prop} {rest:List Oper} {env:List (Nat×Value)} {L M:List a0E}
 {d:Tmp} {ty:TypeId} {pos:String} {af:Array Edge} {gd:Option (Nat×Bool)}
def p0X (env:List (Nat×Value)):List (Nat×Operand)→Option (List (Nat×Value))
 | []=>some []
 | (i,x)::r=>match evo env x with
  |some v=>match p0X env r with
   |some ps=>some ((i,v)::ps)
   |none=>none
  |none=>none
theorem v0B {a:Act} {w:World} (d:b0J c env L a w): ∀(ps:List (Nat×Operand)) (vs:List (Nat×Value)),p0X env ps=some vs→(ps.map fun(i,x)=>(i,a.eval x))=vs
 | [],vs,h=>by simp[p0X]at h;subst h;rfl
 | (i,x)::r,vs,h=>by
  simp only[p0X]at h;split at h
  ·rename_i v e;split at h
   ·rename_i ps b;simp only[Option.some.injEq]at h;subst h;simp[d.eval e,v0B d r ps b]
   ·cases h
  ·cases h
theorem s0P {t:TypeId} {parts:List (Nat×Operand)} {h:List (Nat×Nat)} {z:Value} {ps:List (Nat×Value)} {cs:List Value} (e:i1L c.P t=some (h,z)) (q:p0X env parts=some ps)
 (o:m0O (nth h) z.cells.toList (ps.map fun(i,v)=>(i,v.cells.toList))=some cs):a0P c ⟨some d,.build t parts.toArray,ty,pos,af,gd⟩ env L (.agg cs.toArray):=by
 intro a w p;have n:(parts.toArray.map fun(i,x)=>(i,a.eval x)).toList=ps:=by simpa using v0B p parts ps q
 have hb:c.P.built t (parts.toArray.map fun(i,x)=>(i,a.eval x)).toList=some cs.toArray:=by
  rw[n];unfold i1L at e;unfold Program.built;split at e
  ·rename_i s f j k;split at e
   ·rename_i r b l m;simp only[Option.some.injEq,Prod.mk.injEq]at e;obtain⟨rfl,rfl⟩:=e;simp only[j,k,l,m];have g:(fun i=>b.toArray[i]?)=nth b:=by funext i;simp[e0F]
    rw[g];exact w0J ps r.cells cs o
   ·cases e
  ·cases e
 unfold execOp;simp only[Sem.run_bind,run_build w t _ _ hb,Result.andThen_ok,Sem.run_pure]
def r0L (z:List Value) (n:Nat):List Value:=(List.replicate n z).flatten
theorem r1P (v:Value) (n:Nat):madeCells #[v] n=(List.replicate n v).toArray:=by
 apply Array.ext
 ·simp[madeCells]
 ·intro i a b;simp[madeCells,Nat.mod_one]
theorem r1Q {x y:Operand} {t e:TypeId} {z v:Value} {k1 u:IntKind} {n f:Nat} {i j:Int} (r:c0X c.P t e 1=true) (g:r0K c.P e f=true) (o:h0D c.P e=some z) (p:z.cells= #[v])
 (D:evo env x=some (.int k1 i)) (E:evo env y=some (.int u j)) (hi:i=(n:Int)) (B:j=(n:Int)) (hb:f*n≤281474976710656) (F:n≤9223372036854775807)
 (h: ∀b,OW c ops Q rest ((d,.slice (some ⟨b,0,none⟩) n n)::env) (pts b (.cells (List.replicate n v).toArray e (0,0))::L)) (hd:Nat.blt d c.n=true:=by rfl):OW c ops Q (⟨some d,.makeSlice t x y,ty,pos,af,none⟩::rest) env L:=by
 subst hi;subst B;refine d1Y (v:=fun b=> .slice (some ⟨b,0,none⟩) n n) (fun a w q=> ?_) h hd;simp only[c0X,Bool.and_eq_true]at r;obtain⟨k,l⟩:=r;split at k
 case h_2=>cases k
 rename_i A hu;simp only[beq_iff_eq]at k;subst k;unfold r0K at g;split at l
 case h_2=>cases l
 rename_i s hi;unfold h0D at o;rw[hi]at g o;simp only[beq_iff_eq]at l g;have m:((s.bytes:Int))*(n:Int)≤281474976710656:=by rw[g,←Int.natCast_mul];exact Int.ofNat_le.2 hb
 have C:=run_make (P:=c.P) w t A s z hu hi o k1 u n n (Int.natCast_nonneg n) (Int.le_refl _) m (by omega);unfold execOp;simp only[q.eval D,q.eval E,Sem.run_bind,C,Result.andThen_ok,Sem.run_pure,Int.toNat_natCast,l,p,Nat.mul_one,r1P]
theorem n1P (z:Array Value) (n:Nat):(madeCells z (n*z.size)).toList=r0L z.toList n:=by
 induction n with
 |zero=>simp[madeCells,r0L]
 |succ n ih=>
  have e:r0L z.toList (n+1)=r0L z.toList n++z.toList:=by
   simp only[r0L,List.replicate_succ',List.flatten_append,List.flatten_cons,List.flatten_nil,List.append_nil]
  rw[e,←ih];apply List.ext_getElem
  ·simp[madeCells,Nat.add_mul]
  ·intro i a d;simp only[madeCells,Array.getElem_toList,Array.getElem_map,Array.getElem_range,List.getElem_append,Array.length_toList,Array.size_map,Array.size_range];split
   ·rfl
   ·rename_i c;simp[madeCells,Nat.add_mul]at a;have b:i%z.size=i-n*z.size:=by
     rw[show i=(i-n*z.size)+n*z.size by omega,Nat.add_mul_mod_self_right,Nat.mod_eq_of_lt (by omega)];omega
    rw[b];simp[show i-n*z.size<z.size by omega]
theorem w0G {t e size len:Nat} {parts:List (Nat×Operand)} {z:Value} {ps:List (Nat×Value)} {cs:List Value} (o:c0X c.P t e size=true)
 (k:h0D c.P e=some z) (l:z.cells.size=size) (h:Nat.ble (len*size) 16777216=true) (y:p0X env parts=some ps)
 (s:m0O (fun i=>some (i*size,size)) (r0L z.cells.toList len) (ps.map fun(i,v)=>(i,v.cells.toList))=some cs) (a:Act) (w:World) (u:b0J c env L a w):
 (execOp a.eval ⟨some d,.buildSlice t len parts.toArray,ty,pos,af,gd⟩).run c.P w= .ok (.value (.slice (some ⟨w.heap.size,0,none⟩) len len)) (w.alloc (.cells cs.toArray e (0,0))):=by
 simp only[c0X,Bool.and_eq_true]at o;obtain⟨f,b⟩:=o;split at f
 case h_2=>cases f
 rename_i A hu;simp only[beq_iff_eq]at f;subst f;split at b
 case h_2=>cases b
 rename_i p hi;unfold h0D at k;rw[hi]at k;simp only[beq_iff_eq]at b;have g: ¬len*p.size>16777216:=by rw[b];have:=Nat.le_of_ble_eq_true h;omega
 have m:List.map (fun x=>(x.1,a.eval x.2)) parts=ps:=v0B u parts ps y;have n:Instr.fill (fun i=>some (i*size,size)) (madeCells z.cells (len*size)) ps=some cs.toArray:=by
  have:=n1P z.cells len;rw[l]at this;exact w0J ps _ cs (by rw[this];exact s)
 unfold execOp;by_cases j:len*p.size=0
 ·have r:Instr.fill (fun i=>some (i*size,size)) #[] ps=some cs.toArray:=by
   have e0:madeCells z.cells (len*size)= #[]:=by rw[←b,j];simp[madeCells]
   rw[←e0];exact n
  simp[Instr.buildSlice,run_underlying hu,sizeOf,typeInfo,hi,b,m,newRow,b▸g,b▸j,Array.range_zero',r]
 ·have q:((Array.range (len*size)).map (z.cells[· %z.cells.size]!))=madeCells z.cells (len*size):=rfl;simp[Instr.buildSlice,run_underlying hu,sizeOf,typeInfo,hi,b,m,newRow,b▸g,b▸j,zeroValue,k];rw[q,n];simp
theorem r1R {t e size len:Nat} {parts:List (Nat×Operand)} {z:Value} {ps:List (Nat×Value)} {cs:List Value} (l:c0X c.P t e size=true)
 (o:h0D c.P e=some z) (g:z.cells.size=size) (f:Nat.ble (len*size) 16777216=true) (m:p0X env parts=some ps)
 (j:m0O (fun i=>some (i*size,size)) (r0L z.cells.toList len) (ps.map fun(i,v)=>(i,v.cells.toList))=some cs)
 (h: ∀b,OW c ops Q rest ((d,.slice (some ⟨b,0,none⟩) len len)::env) (pts b (.cells cs.toArray e (0,0))::L)) (hd:Nat.blt d c.n=true:=by rfl):OW c ops Q (⟨some d,.buildSlice t len parts.toArray,ty,pos,af,none⟩::rest) env L:=
 d1Y (v:=fun b=> .slice (some ⟨b,0,none⟩) len len) (fun a w k=>w0G l o g f m j a w k) h hd
section
variable {Js:List p0G} {plan:g0N} {K:List a0E} {e0:List (Nat×Value)} {j:Nat}
theorem t0F {t e size len:Nat} {parts:List (Nat×Operand)} {z:Value} {ps:List (Nat×Value)} {cs:List Value} (hi:ops[j]? =some ⟨some d,.buildSlice t len parts.toArray,ty,pos,af,gd⟩) (m:Sub env e0) (u: ∀a w,b0J c e0 [] a w→Region.wanted ⟨some d,.buildSlice t len parts.toArray,ty,pos,af,gd⟩ (yielded ops a.tmps)=true)
 (r:c0X c.P t e size=true) (x:h0D c.P e=some z) (k:z.cells.size=size) (f:Nat.ble (len*size) 16777216=true) (s:p0X e0 parts=some ps)
 (o:m0O (fun i=>some (i*size,size)) (r0L z.cells.toList len) (ps.map fun(i,v)=>(i,v.cells.toList))=some cs)
 (g:((c0E env d).isNone&&((Js.all fun q=> !Nat.beq q.d d&&(c0E q.e0 d).isNone&&(c0E e0 q.d).isNone)&&(c0E e0 d).isNone))=true)
 (h:OMf c ops Q K (⟨j,d,fun b=> .slice (some ⟨b,0,none⟩) len len,.cells cs.toArray e (0,0),e0⟩::Js) plan env L) (hd:Nat.blt d c.n=true:=by rfl):OMf c ops Q K Js (.float j plan) env L:=
 p1K (p:=⟨j,d,fun b=> .slice (some ⟨b,0,none⟩) len len,.cells cs.toArray e (0,0),e0⟩) ⟨_,hi,rfl,hd,fun a w l=>⟨u a w l,w0G r x k f s o a w l⟩⟩ m g h
theorem j0Y {e:TypeId} {z:Value} (hi:ops[j]? =some ⟨some d,.alloc e,ty,pos,af,gd⟩) (k:Sub env e0) (m: ∀a w,b0J c e0 [] a w→Region.wanted ⟨some d,.alloc e,ty,pos,af,gd⟩ (yielded ops a.tmps)=true)
 (f:h0D c.P e=some z)
 (g:((c0E env d).isNone&&((Js.all fun q=> !Nat.beq q.d d&&(c0E q.e0 d).isNone&&(c0E e0 q.d).isNone)&&(c0E e0 d).isNone))=true)
 (h:OMf c ops Q K (⟨j,d,fun b=> .pointer (some ⟨b,0,none⟩),.cells z.cells e (0,0),e0⟩::Js) plan env L) (hd:Nat.blt d c.n=true:=by rfl):OMf c ops Q K Js (.float j plan) env L:=
 p1K (p:=⟨j,d,fun b=> .pointer (some ⟨b,0,none⟩),.cells z.cells e (0,0),e0⟩) ⟨_,hi,rfl,hd,fun a w l=>⟨m a w l,by
  unfold h0D at f;split at f
  ·rename_i i hi;simp[execOp,Instr.alloc,zeroValue,typeInfo,hi,f,newVar,newRow]
  ·cases f⟩⟩ k g h
end
theorem i0N {t k f:Nat} {x:Operand} {v:Value} {e size n:Nat} {xs:List Value} (i:c0X c.P t k f=true) (j:evo env x=some v) (hL:Fnd L (b0I e size v n xs) M):
 a0P c ⟨some d,.call {callee:= .builtin .len,args:= #[x],argTypes:= #[t]},ty,pos,af,gd⟩ env L (.int .i64 n):=by
 intro a w h;obtain⟨_,b⟩:=f0O (hL.sat h.sat);rcases b with ⟨rfl,rfl,_⟩| ⟨g,cap,cur,rfl,_⟩
 ·exact r0Z i j a w h
 ·exact r0Z i j a w h
theorem f0I {k l s' size b o n cap:Nat} {news cs:List Value} {e:TypeId} {fr:Nat×Nat} {M:List a0E} (h:c0X c.P k l s'=true) [hL:o0G L b (.cells cs.toArray e fr) M]
 (q:(cs.drop o).take (n*size)=news) (i:news.length=n*size) (m: ∀u∈news,u.oneCell'=true): ∀a w,b0J c env L a w→Src c.P size k (.slice (some ⟨b,o,none⟩) n cap) n news w:=by
 intro a w p;simp only[c0X,Bool.and_eq_true]at h;obtain⟨d,_⟩:=h;split at d
 case h_2=>cases d
 rename_i r hu;refine Src.ofSlice w hu _ _ _ _ i (fun j u f=> ?_) m;have hb:=(hL.sat p.sat).pts;have g:j<n*size:=by rw[←i];exact(List.getElem?_eq_some_iff.1 f).1
 rw[←q,List.getElem?_take_of_lt g,List.getElem?_drop]at f;simp[World.cell?,j0C,hb,f]
theorem n1Q {d:Nat} {s:ByteArray} (b:g0D c.P d=true): ∀a w,b0J c env L a w→Src c.P 1 d (.string s) s.size (byteCells s) w:=by
 intro a w _;unfold g0D at b;split at b
 ·rename_i hu;exact Src.ofString w hu s
 ·cases b
def a0Q (b:UInt8):Value:= .int .u8 b.toNat
def p0S (s:ByteArray) (cap:Nat):List Value:=s.data.toList.map a0Q++List.replicate (cap-s.size) (.int .u8 0)
theorem d1P (s:ByteArray) (cap:Nat):bytesRow s cap=(p0S s cap).toArray:=by
 apply Array.ext';simp[bytesRow,p0S,a0Q]
def b1I (P:Program) (e:TypeId):Bool:=match P.underlying e with|some (.int .u8)=>true|_=>false
theorem s1P {x:Operand} {g f e:TypeId} {s:ByteArray} (r:g0D c.P g=true) (i:c0X c.P f e 1=true) (p:b1I c.P e=true) (A:evo env x=some (.string s))
 (o:s.size≤maxLen) (h: ∀b cap,s.size≤cap→cap≤maxLen→OW c ops Q rest ((d,.slice (some ⟨b,0,none⟩) s.size cap)::env) (pts b (.cells (p0S s cap).toArray e (cap,cap+1))::L)) (hd:Nat.blt d c.n=true:=by rfl):
 OW c ops Q (⟨some d,.convert g f x,ty,pos,af,none⟩::rest) env L:=by
 intro a w j;have t:c.P.underlying g=some .string:=by
  unfold g0D at r;split at r<;>simp_all
 have u:c.P.underlying f=some (.slice e):=by
  unfold c0X at i;simp only[Bool.and_eq_true]at i;obtain⟨y,_⟩:=i;split at y<;>simp_all
 have v:c.P.underlying e=some (.int .u8):=by
  unfold b1I at p;split at p<;>simp_all
 refine wpList_plain rfl fun K z=> ?_;unfold Oper.wp;have q:=run_bytes_of_string (P:=c.P) w g f e s t u v;have k:s.size≤grownCap w s.size 0 e:=grownCap_ge w s.size 0 e;have l:(bytesRow s (grownCap w s.size 0 e)).size=grownCap w s.size 0 e:=by
  rw[d1P];simp[p0S];have:s.data.size=s.size:=rfl;omega
 rw[l,d1P]at q;unfold execOp;simp only[j.eval A,Sem.run_bind,q,Result.andThen_ok,Sem.run_pure,Oper.upon];have m:b0J c env (pts w.heap.size (.cells (p0S s (grownCap w s.size 0 e)).toArray e (grownCap w s.size 0 e,grownCap w s.size 0 e+1))::L) a (w.drew.alloc (.cells (p0S s (grownCap w s.size 0 e)).toArray e (grownCap w s.size 0 e,grownCap w s.size 0 e+1))):=
  ⟨j.size,j.slots,j.defers,(j.sat.drew).alloc _,(j.like.drew).alloc _⟩
 exact z _ _ (h w.heap.size _ k (grownCap_le_maxLen w s.size 0 e o) _ _ (m.put d _ hd))
theorem e1C {x:Operand} {g f e:TypeId} {b o n cap:Nat} {cs:List Value} {r:TypeId} {fr:Nat×Nat} {l:List UInt8} {Mo:List a0E} (k:c0X c.P g e 1=true) (i:g0D c.P f=true) (m:b1I c.P e=true)
 (B:evo env x=some (.slice (some ⟨b,o,none⟩) n cap)) [hL:o0G L b (.cells cs.toArray r fr) Mo] (z:l.length=n) (y:(cs.drop o).take n=l.map a0Q):
 a0P c ⟨some d,.convert g f x,ty,pos,af,gd⟩ env L (.string ⟨l.toArray⟩):=by
 intro a w p;have s:c.P.underlying f=some .string:=by
  unfold g0D at i;split at i<;>simp_all
 have t:c.P.underlying g=some (.slice e):=by
  unfold c0X at k;simp only[Bool.and_eq_true]at k;obtain⟨v,_⟩:=k;split at v<;>simp_all
 have u:c.P.underlying e=some (.int .u8):=by
  unfold b1I at m;split at m<;>simp_all
 have h:=(hL.sat p.sat).pts;subst z;have A:=run_convert_bytes_back (P:=c.P) w g f e ⟨b,o,none⟩ cap l t u s (fun j q=>by
  have:((cs.drop o).take l.length)[j]? =some (a0Q l[j]):=by rw[y];simp[q]
  rw[List.getElem?_take_of_lt q,List.getElem?_drop]at this;simp[World.cell?,j0C,h,this,a0Q])
 unfold execOp;simp only[p.eval B,Sem.run_bind,A,Result.andThen_ok,Sem.run_pure]
theorem y0V {x:Operand} {f b e n:Nat} {v:Value} {l:List UInt8} {M:List a0E} (q:c0X c.P f e 1=true) (i:g0D c.P b=true) (y:b1I c.P e=true)
 (z:evo env x=some v) (hL:Fnd L (b0I e 1 v n (l.map a0Q)) M):a0P c ⟨some d,.convert f b x,ty,pos,af,gd⟩ env L (.string ⟨l.toArray⟩):=by
 intro a w k;have r:c.P.underlying b=some .string:=by
  unfold g0D at i;split at i<;>simp_all
 have s:c.P.underlying f=some (.slice e):=by
  unfold c0X at q;simp only[Bool.and_eq_true]at q;obtain⟨u,_⟩:=q;split at u<;>simp_all
 have t:c.P.underlying e=some (.int .u8):=by
  unfold b1I at y;split at y<;>simp_all
 obtain⟨m,C⟩:=f0O (hL.sat k.sat);simp only[List.length_map,Nat.mul_one]at m;rcases C with ⟨rfl,rfl,_⟩| ⟨g,cap,cur,rfl,u,E,F,A,B⟩
 ·have o:l= []:=List.eq_nil_of_length_eq_zero m;subst o;have p:=run_convert_bytes_string (P:=c.P) w f b e none 0 0 s t r;unfold execOp;simp only[k.eval z,Sem.run_bind,p,Conv.bytesToString,Sem.run_pure,Result.andThen_ok];rfl
 ·subst m;have h:=B.pts;have p:=run_convert_bytes_back (P:=c.P) w f b e ⟨g,0,none⟩ cap l s t r (fun j D=>by
   have:(cur.take (l.length*1))[j]? =some (a0Q l[j]):=by rw[A];simp[D]
   rw[List.getElem?_take_of_lt (by omega)]at this;simp[World.cell?,j0C,h,this,a0Q])
  unfold execOp;simp only[k.eval z,Sem.run_bind,p,Result.andThen_ok,Sem.run_pure]
variable {y:Code}
theorem b0U {L':List a0E} (d: ∀w,Sat w L→Sat w L') (h:CW c y Q env L'):CW c y Q env L:=fun a w b=>h a w ⟨b.size,b.slots,b.defers,d w b.sat,b.like⟩
theorem b0F {e:Exit} {L':List a0E} (d: ∀w,Sat w L→Sat w L') (h:KW c Q e env L'):KW c Q e env L:=fun a w b=>h a w ⟨b.size,b.slots,b.defers,d w b.sat,b.like⟩
theorem e0X {L':List a0E} (d: ∀w,Sat w L→Sat w L') (h:OW c ops Q rest env L'):OW c ops Q rest env L:=fun a w b=>h a w ⟨b.size,b.slots,b.defers,d w b.sat,b.like⟩
theorem f0E (e:TypeId) (size:Nat) {L:List a0E} (w:World) (h:Sat w L):Sat w (b0I e size (.slice none 0 0) 0 []::L):=s1O e size h
end
theorem i1M (s:ByteArray) (cap i:Nat) (h:i<s.size) (k:Nat) (b:k=i):nth (p0S s cap) k=some (a0Q (s.data.toList[i]'(by simpa using h))):=by
 subst b;have a:k<(s.data.toList.map a0Q).length:=by simpa using h
 rw[e0F,p0S,List.getElem?_append_left a,List.getElem?_eq_getElem a,List.getElem_map]
end
end Go.Sl
namespace Go.Sl
theorem d2P (x:Int) (p q:Nat) (d:0<p) (e:0<q) (hd:p ∣ q):(x% (q:Int)).toNat%p=(x% (p:Int)).toNat:=by
 have a:((x% (q:Int)).toNat:Int)=x% (q:Int):=Int.toNat_of_nonneg (Int.emod_nonneg _ (by omega));have b:((x% (p:Int)).toNat:Int)=x% (p:Int):=Int.toNat_of_nonneg (Int.emod_nonneg _ (by omega));have c:(((x% (q:Int)).toNat%p:Nat):Int)=x% (p:Int):=by
  rw[Int.natCast_emod,a];exact Int.emod_emod_of_dvd _ (Int.natCast_dvd_natCast.2 hd)
 omega
theorem e0P (k:IntKind) (n:Int) (e:0≤n) (b:n<((2^(k.bits-1):Nat):Int)):k.wrap n=n:=by
 have a:((2^(k.bits-1):Nat):Int)≤((2^k.bits:Nat):Int):=Int.ofNat_le.2 (Nat.pow_le_pow_right (by decide) (Nat.sub_le _ _));have c:((2^(k.bits-1):Nat):Int)=(2:Int)^(k.bits-1):=by rw[Int.natCast_pow];rfl
 have d:((2^k.bits:Nat):Int)=(2:Int)^k.bits:=by rw[Int.natCast_pow];rfl
 rw[c]at b a;rw[d]at a;have f:n% (2:Int)^k.bits=n:=Int.emod_eq_of_lt e (Int.lt_of_lt_of_le b a);unfold IntKind.wrap;simp only[f];rw[if_neg];simp only[Bool.and_eq_true,decide_eq_true_eq];rintro⟨_,hge⟩;exact absurd b (Int.not_lt.2 hge)
theorem b1J (k:IntKind) (i:Nat) (hi:i≤7∨(i≤31∧32≤k.bits)) (m:Nat) (g:m=2^i-1) (x:Int):bits .and k x m=x% ((2^i:Nat):Int):=by
 have c:i<k.bits∧(k.signed=true→i<k.bits):=by
  have:8≤k.bits:=by cases k<;>decide
  omega
 have a:0<2^i:=Nat.two_pow_pos i;have e:2^i-1<2^k.bits:=Nat.lt_of_lt_of_le (Nat.sub_lt a (by decide)) (Nat.pow_le_pow_right (by decide) (Nat.le_of_lt c.1));have h:(BitVec.ofInt k.bits x).toNat%2^i=(x% ((2^i:Nat):Int)).toNat:=by
  rw[BitVec.toNat_ofInt];exact d2P x _ _ a (Nat.two_pow_pos _) (Nat.pow_dvd_pow 2 (Nat.le_of_lt c.1))
 have b:0≤x% ((2^i:Nat):Int):=Int.emod_nonneg _ (by omega);have d:x% ((2^i:Nat):Int)<((2^i:Nat):Int):=Int.emod_lt_of_pos _ (by omega);subst g;simp only[bits,BitVec.ofInt_natCast,BitVec.toNat_and,BitVec.toNat_ofNat,Nat.mod_eq_of_lt e,Nat.and_two_pow_sub_one_eq_mod,h];rw[Int.toNat_of_nonneg b];generalize x% ((2^i:Nat):Int)=r at b d;refine e0P k r b (Int.lt_of_lt_of_le d ?_);have f:2^i≤2^(k.bits-1):=Nat.pow_le_pow_right (by decide) (by
  have:8≤k.bits:=by cases k<;>decide
  omega)
 exact Int.ofNat_le.2 f
theorem t2F (a b:Nat) (e:a<9223372036854775808) (hb:b<9223372036854775808):bits .xor .i64 (a:Int) (b:Int)=((a ^^^ b:Nat):Int):=by
 have h:a ^^^ b<2^63:=Nat.xor_lt_two_pow (by simpa using e) (by simpa using hb);have c:a%2^IntKind.i64.bits=a:=Nat.mod_eq_of_lt (by simp only[IntKind.bits];omega);have d:b%2^IntKind.i64.bits=b:=Nat.mod_eq_of_lt (by simp only[IntKind.bits];omega);simp only[bits,BitVec.ofInt_natCast,BitVec.toNat_xor,BitVec.toNat_ofNat,c,d];exact e0P .i64 _ (Int.natCast_nonneg _) (Int.ofNat_lt.2 h)
theorem x2F (a b:Nat) (f:a*256<18446744073709551616) (hb:b<256):bits .or .u64 ((a*256:Nat):Int) (b:Int)=((a*256+b:Nat):Int):=by
 have c:(a*256)%2^IntKind.u64.bits=a*256:=Nat.mod_eq_of_lt (by simp only[IntKind.bits];omega);have d:b%2^IntKind.u64.bits=b:=Nat.mod_eq_of_lt (by simp only[IntKind.bits];omega);have e:a*256 ||| b=a*256+b:=by
  have:=Nat.two_pow_add_eq_or_of_lt (i:=8) (b:=b) (by simpa using hb) a;rw[Nat.mul_comm a 256];exact this.symm
 simp only[bits,BitVec.ofInt_natCast,BitVec.toNat_or,BitVec.toNat_ofNat,c,d,e];simp only[IntKind.wrap,IntKind.bits,IntKind.signed,Bool.false_and,Bool.false_eq_true,if_false];exact Int.emod_eq_of_lt (Int.natCast_nonneg _) (by omega)
theorem g1J (k:IntKind) (h:32≤k.bits) (x:Int):bits .and k x 255=x%256:=b1J k 8 (.inr ⟨by decide,h⟩) 255 (by decide) x
theorem i2K (k:IntKind) (x:Int):bits .and k x 15=x%16:=b1J k 4 (.inl (by decide)) 15 (by decide) x
theorem s1Q (k:IntKind) (x:Int):bits .and k x 31=x%32:=b1J k 5 (.inl (by decide)) 31 (by decide) x
theorem z2N (k:IntKind) (x:Int):bits .and k x 3=x%4:=b1J k 2 (.inl (by decide)) 3 (by decide) x
end Go.Sl
section
namespace Go.Sl
open Go.ChangeShapes Go.WideShapes Go.ChangeAt Go.RowKit Go.WideElems
open Go.ChangeMaps (open_string shut_string)
theorem i2L {P:Program} {f:FuncId} {args:Array Value} {W:World} {v:Value} (h:a0G P f args [whole W] (a0T v [whole W])):Calls P f args W fun e b=>e= .returned v∧Below W.heap.size W b:=by
 have l:Sat W ([whole W]++ [m0X True]):=((u0D (p:=True) (L:= [whole W])).2 ⟨trivial,i2F W⟩).perm (List.Perm.swap _ _ _);refine(h W _ l).mono ?_;rintro e b ⟨L',⟨rfl,rfl⟩,a,c⟩;have hb: ∀k,k<W.heap.size→b.heap[k]? =W.heap[k]? :=fun k j=>a.whole_block k j;refine⟨rfl,c.os,c.tape,c.output,?_,hb⟩;rcases Nat.eq_zero_or_pos W.heap.size with g|g
 ·omega
 ·have d:=hb (W.heap.size-1) (by omega);rw[Array.getElem?_eq_getElem (xs:=W.heap) (i:=W.heap.size-1) (by omega)]at d;have:=(Array.getElem?_eq_some_iff.1 d).1;omega
theorem d1Q {H:Type} {enc:TypeId×Value→H} {P:Program} (f:laidOutB P=true) {W e:World} (hb:Below W.heap.size W e):
 ∀ {a:List TypeId} {vs:List Value} {ds:List (DataW H)} {ps:List MemPlace},(a.all fun t=>P.readableRec t&&decide (t<P.types.size))=true→(∀p∈ps,p.block<W.heap.size)→
  DataW.TrodAll enc P W 0 (fun _=>true) true a vs ds ps→DataW.TrodAll enc P e 0 (fun b=>decide (b<W.heap.size)) true a vs ds ps
 | [],vs,ds,ps,_,_,h=>by obtain⟨rfl,rfl,rfl⟩:=trodAll_nil h;exact trodAll_mk0
 |t::a,vs,ds,ps,ht,hp,h=>by
  obtain⟨v,k,d,g,p,q,rfl,rfl,rfl,i,j⟩:=trodAll_cons h;simp only[List.all_cons,Bool.and_eq_true,decide_eq_true_eq]at ht;exact trodAll_cons_mk (Below.trod f ht.1.1 ht.1.2 i hb (fun x c=>hp x (by simp[c]))) (d1Q f hb (by simpa using ht.2) (fun x c=>hp x (by simp[c])) j)
theorem n2V {H:Type} {enc:TypeId×Value→H} {P:Program} {f:Func} {s:ChangeSpec} {W i:World} {args:Array Value} {ds n:List (DataW H)} {a:List MemPlace} {m:TypeId}
 (k:DataW.Whole enc P f.params.toList s.vars false W args.toList ds n a) (l:s.vars= []) (hb:Below W.heap.size W i) (u:laidOutB P=true)
 (w:(f.params.toList.all fun t=>P.readableRec t&&decide (t<P.types.size))=true) (y:f.resultTypes= #[m]) (e:P.underlying m=some .bool)
 (b:(s.fn H ds)= {results:= [.lit (.bool true)],args:=ds}):s.post enc P f false true false false W args (.bool true) i:=by
 have c:=k;obtain⟨p,q,o,j,rfl,r,v⟩:=k;have d: ∀x∈p++q,x.block<W.heap.size:=fun x g=>by simpa using c.lt x g
 rw[l]at j;obtain⟨rfl,rfl⟩:=trodVars_none j;refine⟨ds,[],_,[],p,[],c,?_,?_,?_,hb.frame _,fun h=>by cases h⟩
 ·rw[y];simp only[List.append_nil,b];exact trodAll_mk1 (shut_bool e true)
 ·simp only[List.append_nil,b];exact d1Q u hb w (fun x g=>d x (by simp[g])) o
 ·simp only[List.append_nil,b,l];exact rfl
theorem a0G.imp {P:Program} {f:FuncId} {args:Array Value} {Pre:List a0E} {Post Post':Ending→List a0E→Prop} (h:a0G P f args Pre Post) (hi: ∀e L,Post e L→Post' e L):a0G P f args Pre Post':=by
 intro w F d;refine(h w F d).mono ?_;rintro e g ⟨L',a,b,c⟩;exact⟨L',hi e L' a,b,c⟩
theorem a0G.weak {P:Program} {f:FuncId} {args:Array Value} {Pre:List a0E} {v:Value} {N:List a0E} (h:a0G P f args Pre (a0T v N)):a0G P f args Pre (a0T v []):=by
 intro w F c;refine(h w F c).mono ?_;rintro e d ⟨L',⟨rfl,rfl⟩,a,b⟩;exact⟨[],⟨rfl,rfl⟩,a.drop,b⟩
section
variable {c:Cx} {env:List (Nat×Value)} {L M:List a0E} {d:Option Tmp} {ty:TypeId} {pos:String} {af:Array Edge} {g:Option (Nat×Bool)}
theorem d2Q {W w:World} {L:List a0E} {p:Addr} {v:Value} (h:Sat w (whole W::L)) (a:W.cell? p=some v):w.cell? p=some v:=by
 have b:p.block<W.heap.size:=by
  rcases Nat.lt_or_ge p.block W.heap.size with h|h
  ·exact h
  ·unfold World.cell? at a;rw[Array.getElem?_eq_none h]at a;simp at a
 rw[World.cell?_of_block (w:=W) (h.whole_block p.block b)];exact a
theorem w0Z {x:Operand} {t:TypeId} {A:a0E} {p:Addr} {v:Value} (f:f0Q c.P t=true) (j:evo env x=some (.pointer (some p))) (hL:Fnd L A M) (b: ∀(w:World) L',Sat w (A::L')→w.cell? p=some v):
 a0P c ⟨d,.load t x,ty,pos,af,g⟩ env L v:=by
 intro a w h;have i:=b w M (hL.sat h.sat);have e:(loadVar t p).run c.P w= .ok v w:=by
  simp[loadVar,Sem.run_bind,k0Z f,Result.andThen_ok,run_load,i]
 simp[execOp,h.eval j,Instr.loadAt,Instr.sureAddr,e]
theorem i2M {t e n:TypeId} {x y:Operand} {q:Addr} {l cap:Nat} {k:IntKind} {i:Int} (m:c0X c.P t e n=true) (p:evo env x=some (.slice (some q) l cap)) (r:evo env y=some (.int k i)) (hi:0≤i∧i<l):
 a0P c ⟨d,.indexAddr t x y,ty,pos,af,g⟩ env L (.pointer (some (q.add (i.toNat*n)))):=by
 intro a w h;simp only[c0X,Bool.and_eq_true]at m;obtain⟨f,j⟩:=m;split at f
 ·rename_i z hu;simp at f;subst f;split at j
  ·rename_i o b;simp at j;subst j;simp[execOp,h.eval p,h.eval r,Instr.indexAt,run_underlying hu,asIntOf,hi.1,hi.2,sizeOf,typeInfo,b]
  ·cases j
 ·cases f
end
end Go.Sl
namespace Go.Sl
open Go.ChangeShapes Go.WideShapes Go.ChangeAt Go.RowKit Go.WideElems
end Go.Sl
end
namespace Go.Sl
section
section
variable {c:Cx} {ops:Array Oper} {Q:Exit→Act→World→Prop} {rest:List Oper} {env:List (Nat×Value)} {L:List a0E} {d:Option Tmp} {ty:TypeId} {pos:String} {af:Array Edge} {g:Option (Nat×Bool)}
theorem n2W {x:Operand} {t:TypeId} {v:Value} (f:evo env x=some (.iface t v)) (h:KW c Q (.panic [{v:= .iface t v,recovered:=false}]) env L):OW c ops Q (⟨d,.panic x,ty,pos,af,none⟩::rest) env L:=by
 intro a w b;refine wpList_plain rfl fun K g=> ?_;unfold Oper.wp;have e:(execOp a.eval ⟨d,.panic x,ty,pos,af,none⟩).run c.P w= .halt (.panic (.iface t v)) w:=by
  simp[execOp,b.eval f,Instr.panic,goPanic]
 rw[e];exact h a w b
theorem i1N {a:List PanicEntry} {id:Nat} (h:KW c Q (.panic a) env L):KW c (Exit.inBlock id Q) (.panic a) env L:=h
theorem r1S {a:List PanicEntry} {X:Act→World→Prop} (h:KW c Q (.panic a) env L):KW c (Exit.then X Q) (.panic a) env L:=h
theorem c0A {d:Option Tmp} {fx:Operand} {f:FuncId} {xs:List Operand} {ats:Array TypeId} {first vs cap:List Value} {Pre M N:List a0E} {g:List PanicEntry}
 (j:evo env fx=some (.func (.func f) first.toArray cap.toArray)) (hb:f0H c.P f=true) (l:xs.mapM (evo env)=some vs) (k:a0G c.P f (first++vs++cap).toArray Pre (fun en L=>en= .panicked g∧L=N)) (hL:b0A L Pre M)
 (h:KW c Q (.panic g) env (N++M)):OW c ops Q (⟨d,.call {callee:= .value fx,args:=xs.toArray,argTypes:=ats},ty,pos,af,none⟩::rest) env L:=
 w0Y j hb l k hL (fun u L' b a w m=>by cases b.1) (fun i L' b=>by obtain⟨e,rfl⟩:=b;cases e;exact h) (fun L' b=>by cases b.1)
def n1R (P:Program) (t:TypeId):Bool:=match P.underlying t with|some (.interface _)=>true|_=>false
theorem s1R {x:Operand} {t yt:TypeId} {v:Value} {b:Bool} (m:n1R c.P t=true) (o:evo env x=some v) (n:match v with| .nilIface=>b=true| .iface _ _=>b=false|_=>False):
 a0P c ⟨d,.binOp .eql t x (.const .nilIface) yt,ty,pos,af,g⟩ env L (.bool b):=by
 intro a w h;unfold n1R at m;split at m
 case h_2=>cases m
 rename_i p hu;cases v with
 |nilIface=>
  subst n;have f: ∀k,(Op.equalIn (k+1) t .nilIface .nilIface).run c.P w= .ok true w:=by intro k;simp[Op.equalIn,run_underlying hu]
  have e:binOp .eql t .nilIface .nilIface=(do pure (.bool (←Op.equalIn (9999+1) t .nilIface .nilIface))):=rfl;have i:(binOp .eql t .nilIface .nilIface).run c.P w= .ok (.bool true) w:=by rw[e,Sem.run_bind,f];rfl
  have j:(eqGuard .eql t x (.const .nilIface) .nilIface .nilIface).run c.P w= .ok () w:=by simp[eqGuard]
  have l:a.eval (.const .nilIface)= .nilIface:=rfl;simp only[execOp,h.eval o,l,Sem.run_bind,j,Result.andThen_ok,i,Sem.run_pure]
 |iface u z=>
  subst n;have f: ∀k,(Op.equalIn (k+1) t (.iface u z) .nilIface).run c.P w= .ok false w:=by intro k;simp[Op.equalIn,run_underlying hu]
  have e:binOp .eql t (.iface u z) .nilIface=(do pure (.bool (←Op.equalIn (9999+1) t (.iface u z) .nilIface))):=rfl;have i:(binOp .eql t (.iface u z) .nilIface).run c.P w= .ok (.bool false) w:=by rw[e,Sem.run_bind,f];rfl
  have j:(eqGuard .eql t x (.const .nilIface) (.iface u z) .nilIface).run c.P w= .ok () w:=by simp[eqGuard]
  have l:a.eval (.const .nilIface)= .nilIface:=rfl;simp only[execOp,h.eval o,l,Sem.run_bind,j,Result.andThen_ok,i,Sem.run_pure]
 |_=>exact n.elim
theorem n2X {x:Operand} {f t:TypeId} {v:Value} (b:(match c.P.underlying t with|some (.interface _)|none=>false|_=>true)=true) (e:evo env x=some (.iface t v)):
 a0P c ⟨d,.typeAssert x f t true,ty,pos,af,g⟩ env L (.tuple #[v,.bool true]):=by
 intro a w h;cases hd:c.P.underlying t with
 |none=>rw[hd]at b;cases b
 |some k=>cases k<;>first| (rw[hd]at b;cases b;done)|simp[execOp,h.eval e,Instr.typeAssert,run_underlying hd]
end
def r0W:FrameMode→Value×FrameMode
 | .panicking ({v,recovered:=false,goexit:=false} ::older)=>(v,.panicking ({v,recovered:=true} ::older))
 |m=>(.nilIface,m)
def b1K (P:Program) (f:FuncId) (args:Array Value) (u:FrameMode) (Pre:List a0E) (Post:Ending→FrameMode→List a0E→Prop):Prop:=
 ∀w (F:a0E),Sat w (Pre++ [F])→CallsD P f args u w fun e b a=> ∃L',Post e b L'∧Sat a (L'++ [F])∧d0S w a
theorem n2Y {c:Frame} {cs:List Frame} (h:recoverD (c::cs)=none):r0W c.mode=(.nilIface,c.mode):=by
 simp only[recoverD]at h;unfold r0W;generalize c.mode=m at h ⊢;split
 ·simp at h
 ·rfl
theorem n2Z {c:Frame} {cs cs':List Frame} {v:Value} (h:recoverD (c::cs)=some (v,cs')):(r0W c.mode).1=v∧cs'= {c with mode:=(r0W c.mode).2} ::cs:=by
 simp only[recoverD]at h;unfold r0W;generalize c.mode=m at h ⊢;split at h
 ·simp only[Option.some.injEq,Prod.mk.injEq]at h;obtain⟨rfl,rfl⟩:=h;exact⟨rfl,rfl⟩
 ·cases h
theorem p1L {P:Program} {f:FuncId} {fn:Func} {id:Nat} {y:Code} {b d:Nat} {t1 k:TypeId} {p1 p2:String} {i j:Array Edge} {args:List Value} {u:FrameMode} {Pre:List a0E} {Post:Ending→FrameMode→List a0E→Prop} {n:Nat}
 (R:P.funcs[f]? =some fn) (hb:fn.body=some (.seq (.region id #[⟨some b,.call {callee:= .builtin .recover,args:= #[],argTypes:= #[]},t1,p1,i,none⟩,⟨some d,.assign (.tmp b),k,p2,j,none⟩] false) y))
 (T:fn.ntmps=n) (x:Nat.ble args.length n=true) (s:Nat.blt b n=true) (I:Nat.blt d n=true)
 (h: ∀F w0,CW ⟨P,n,[],w0⟩ y (BP P fn (fun e L=>Post e (r0W u).2 L) F w0) ((d,(r0W u).1)::(b,(r0W u).1)::j0X 0 args) (Pre++ [F])):b1K P f args.toArray u Pre Post:=by
 have S:args.length≤n:=Nat.le_of_ble_eq_true x;intro w F A;refine callsD_of_wpS R hb fun g cs hu=> ?_;have o:b0J ⟨P,n,[],w⟩ (j0X 0 args) (Pre++ [F]) {tmps:=args.toArray++Array.replicate (fn.ntmps-args.toArray.size) undef,defers:= []} w:=by
  refine⟨by simp[T];omega,?_,rfl,A,d0S.refl w⟩;intro t v U;obtain⟨_,E⟩:=r0H args 0 t v U;simp only[Nat.sub_zero]at E;have J:t<args.length:=by
   rcases Nat.lt_or_ge t args.length with G|G
   ·exact G
   ·rw[List.getElem?_eq_none G]at E;cases E
  rw[Array.getElem?_append_left (by simpa using J)];simpa using E
 generalize ({tmps:=args.toArray++Array.replicate (fn.ntmps-args.toArray.size) undef,defers:= []} :Act)=a at o;refine wpS_seq (wpS_region ?_);have key: ∀(cs':List Frame),cs'= {g with mode:=(r0W u).2} ::cs→
  y.wpS P (bodyPostS P fn g cs fun e D l=> ∃L',Post e D L'∧Sat l (L'++ [F])∧d0S w l) ((a.put (some b) (r0W u).1).put (some d) (r0W u).1) cs' w:=by
  rintro cs' rfl;refine wpS_of_wp (wp_mono (h F w _ w ((o.put b _ s).put d _ I)) ?_);rintro e V l q;cases e with
  |normal=>obtain⟨B,v,C,N⟩:=q;exact⟨B,_,rfl,v,C,N⟩
  |ret=>obtain⟨B,v,C,N⟩:=q;exact⟨B,_,rfl,v,C,N⟩
  |panic ch=>obtain⟨B,C⟩:=q;exact⟨B,_,rfl,C⟩
  |outgrown=>exact⟨_,q⟩
  |exit _=>exact q.elim
  |goto _=>exact q.elim
 have z: ∀r:Act,(execOp r.eval ⟨some b,.call {callee:= .builtin .recover,args:= #[],argTypes:= #[]},t1,p1,i,none⟩).run P w= .ok .recover w:=fun r=>by
  simp[execOp,resolve,invoke];rfl
 have p: ∀v,(execOp (a.put (some b) v).eval ⟨some d,.assign (.tmp b),k,p2,j,none⟩).run P w= .ok (.value v) w:=fun v=>
  s1K (c:=⟨P,n,[],w⟩) (env:=(b,v)::j0X 0 args) (L:=Pre++ [F]) (by simp[evo,c0E]) _ _ (o.put b v s)
 subst hu;have m: ∀(cs':List Frame),cs'= {g with mode:=(r0W g.mode).2} ::cs→wpOpsS P #[⟨some b,.call {callee:= .builtin .recover,args:= #[],argTypes:= #[]},t1,p1,i,none⟩,⟨some d,.assign (.tmp b),k,p2,j,none⟩]
  (Exit.thenS (y.wpS P (bodyPostS P fn g cs fun e D l=> ∃L',Post e D L'∧Sat l (L'++ [F])∧d0S w l)) (bodyPostS P fn g cs fun e D l=> ∃L',Post e D L'∧Sat l (L'++ [F])∧d0S w l)) [1] (a.put (some b) (r0W g.mode).1) cs' w:=by
  intro cs' H;simp only[wpOpsS];have M:Region.wanted ⟨some d,.assign (.tmp b),k,p2,j,none⟩ (yielded #[⟨some b,.call {callee:= .builtin .recover,args:= #[],argTypes:= #[]},t1,p1,i,none⟩,⟨some d,.assign (.tmp b),k,p2,j,none⟩] (a.put (some b) (r0W g.mode).1).tmps)=true:=rfl;have K:(#[⟨some b,.call {callee:= .builtin .recover,args:= #[],argTypes:= #[]},t1,p1,i,none⟩,⟨some d,.assign (.tmp b),k,p2,j,none⟩]:Array Oper)[1]? =some ⟨some d,.assign (.tmp b),k,p2,j,none⟩:=rfl;simp only[K,M,if_true,p,Oper.upon];exact key cs' H
 show wpOpsS P _ _ [0,1] a (g::cs) w;rw[wpOpsS];have M:Region.wanted ⟨some b,.call {callee:= .builtin .recover,args:= #[],argTypes:= #[]},t1,p1,i,none⟩ (yielded #[⟨some b,.call {callee:= .builtin .recover,args:= #[],argTypes:= #[]},t1,p1,i,none⟩,⟨some d,.assign (.tmp b),k,p2,j,none⟩] a.tmps)=true:=rfl;have K:(#[⟨some b,.call {callee:= .builtin .recover,args:= #[],argTypes:= #[]},t1,p1,i,none⟩,⟨some d,.assign (.tmp b),k,p2,j,none⟩]:Array Oper)[0]? =some ⟨some b,.call {callee:= .builtin .recover,args:= #[],argTypes:= #[]},t1,p1,i,none⟩:=rfl;simp only[K,M,if_true,z];cases O:recoverD (g::cs)with
 |none=>
  have e:=n2Y O;have:=m (g::cs) (by rw[e]);rw[e]at this;exact this
 |some r=>
  obtain⟨v,cs'⟩:=r;obtain⟨rfl,Q⟩:=n2Z O;exact m cs' Q
def BPD (P:Program) (fn:Func) (Post:Ending→List a0E→Prop) (F:a0E) (w0:World):Exit→Act→World→Prop:=
 bodyPostD P fn fun e a=> ∃L',Post e L'∧Sat a (L'++ [F])∧d0S w0 a
theorem z0P {P:Program} {f:FuncId} {fn:Func} {a:Code} {args:List Value} {Pre:List a0E} {Post:Ending→List a0E→Prop} {n:Nat}
 (i:P.funcs[f]? =some fn) (hb:fn.body=some a) (k:fn.ntmps=n) (b:Nat.ble args.length n=true)
 (h: ∀F w0,CW ⟨P,n,[],w0⟩ a (BPD P fn Post F w0) (j0X 0 args) (Pre++ [F])):a0G P f args.toArray Pre Post:=by
 have j:args.length≤n:=Nat.le_of_ble_eq_true b;intro w F c;refine calls_of_wp_defers i hb (h F w _ w ?_);refine⟨by simp[k];omega,?_,rfl,c,d0S.refl w⟩;intro t v l;obtain⟨_,d⟩:=r0H args 0 t v l;simp only[Nat.sub_zero]at d;have g:t<args.length:=by
  rcases Nat.lt_or_ge t args.length with e|e
  ·exact e
  ·rw[List.getElem?_eq_none e]at d;cases d
 rw[Array.getElem?_append_left (by simpa using g)];simpa using d
section
variable {P:Program} {n:Nat} {ds:List Deferred} {w0:World} {ops:Array Oper} {Q:Exit→Act→World→Prop} {rest:List Oper} {env:List (Nat×Value)} {L:List a0E} {ty:TypeId} {pos:String} {af:Array Edge}
theorem i1O {fx:Operand} {f:FuncId} {xs:List Operand} {ats:Array TypeId} {first vs cap:List Value} (g:evo env fx=some (.func (.func f) first.toArray cap.toArray)) (i:xs.mapM (evo env)=some vs)
 (h:OW ⟨P,n,{target:= .fn (.func f) cap.toArray,args:=(first++vs).toArray} ::ds,w0⟩ ops Q rest env L):OW ⟨P,n,ds,w0⟩ ops Q (⟨none,.defer {callee:= .value fx,args:=xs.toArray,argTypes:=ats},ty,pos,af,none⟩::rest) env L:=by
 intro a w c;refine wpList_plain rfl fun K e=> ?_;unfold Oper.wp;have b:(xs.toArray.map a.eval)=vs.toArray:=by simp[s1B c _ _ i]
 have d:(execOp a.eval ⟨none,.defer {callee:= .value fx,args:=xs.toArray,argTypes:=ats},ty,pos,af,none⟩).run P w= .ok (.defer {target:= .fn (.func f) cap.toArray,args:=(first++vs).toArray}) w:=by
  simp only[execOp,resolve,b,c.eval g,Deferred.ofValue,Sem.run_bind,Sem.run_pure,Result.andThen_ok];simp
 rw[d];exact e _ _ (h _ _ ⟨c.size,c.slots,by show _::a.defers=_;rw[c.defers],c.sat,c.like⟩)
variable {fn:Func} {Post:Ending→List a0E→Prop} {F:a0E} {f:FuncId} {cap args:List Value}
theorem p1M {e:Exit} {u:FrameMode} (s:(e= .normal∨e= .ret)∧u= .returning∨ ∃l,e= .panic l∧u= .panicking l) (D: ∀a w,BPD P fn Post F w0 e a w→Q e a w) (d:fn.results= #[]) (hb:f0H P f=true) {Pre N M R L':List a0E}
 (E:b1K P f (args++cap).toArray u Pre (fun e j L'=>(∃v,e= .returned v)∧settle j= .returning∧L'=N)) (hL:b0A L Pre M) (z:b0A (N++M) (F::L') R) (C:Post (.returned (.tuple #[])) L'):
 KW ⟨P,n,[{target:= .fn (.func f) cap.toArray,args:=args.toArray}],w0⟩ Q e env L:=by
 intro a w p;have h:Sat w (Pre++ [b0E M]):=by
  have m:=p.sat.perm hL;have y:Sat w (b0E M::Pre):=b0M.2 (m.perm List.perm_append_comm);exact y.perm (List.perm_append_comm (l₁:= [b0E M]) (l₂:=Pre))
 have g:(invoke (.fn (.func f) cap.toArray) args.toArray).run P w= .ok (.enter f (args++cap).toArray) w:=by
  simp only[invoke];rw[show(args.toArray++cap.toArray)=(args++cap).toArray by simp];exact t0C hb _ w
 have q:Leaves P fn a.tmps (fun e c=> ∃L',Post e L'∧Sat c (L'++ [F])∧d0S w0 c) a.defers u w:=by
  rw[p.defers];refine⟨by rcases s with ⟨_,rfl⟩| ⟨_,_,rfl⟩<;>simp,_,_,f,(args++cap).toArray,rfl,g,?_⟩;intro t cs A;obtain⟨x,j,c,fr,⟨k,⟨⟨v,G⟩,i,rfl⟩,r,B⟩,o⟩:=E w (b0E M) h t cs A;refine⟨x,j,c,fr,?_,o⟩;subst G;show Leaves P fn a.tmps _ [] (settle j) c;rw[i];have b:Sat c (k++M):=by
   have m:Sat c (b0E M::k):=r.perm (List.perm_append_comm (l₁:=k) (l₂:= [b0E M]));exact(b0M.1 m).perm List.perm_append_comm
  refine⟨.tuple #[],?_,L',C,((b.perm z.back).perm List.perm_append_comm).drop,p.like.trans B⟩;exact results_none d _ _ _
 refine D a w ?_;rcases s with ⟨rfl|rfl,rfl⟩| ⟨l,rfl,rfl⟩<;>exact q
end
end
section
def u0E (P:Program):List Field→Nat→Option (List Nat)
 | [],_=>some []
 | f :: fs, i => if f.name ≠ "_" ∧ f.offset = i then
  match P.underlying f.type with
  |some (.int _)=>(u0E P fs (i+1)).map (0:: ·)
  |some .string=>(u0E P fs (i+1)).map (1:: ·)
  |some .bool=>(u0E P fs (i+1)).map (2:: ·)
  |_=>none
  else none
def n1S (P:Program) (t:TypeId):Option (List Nat):=
 match P.underlying t with
 |some (.struct fs)=>if !P.stoodInHeld t&& !P.eqGuardType P.depth t then u0E P fs.toList 0 else none
 |_=>none
def eqK:List Nat→List Value→List Value→Option Bool
 | [],_,_=>some true
 |0::ks,.int j a::xs,.int k b::ys=>if j=k then(match a == b with|true=>eqK ks xs ys|false=>some false)else none
 |1::ks,.string a::xs,.string b::ys=>match a.toList == b.toList with|true=>eqK ks xs ys|false=>some false
 |2::ks,.bool a::xs,.bool b::ys=>match a == b with|true=>eqK ks xs ys|false=>some false
 |_,_,_=>none
theorem i1P {P:Program} {t:TypeId} (a:f0Q P t=true) {X:List Value} {i:Nat} {v:Value} (h:X[i]? =some v) (w:World):(part t X.toArray i).run P w= .ok v w:=by
 simp[part,k0Z a,h]
theorem s0Q {α:Type} {X:List α} {i:Nat} {x:α} {xs:List α} (h:X.drop i=x::xs):X[i]? =some x∧X.drop (i+1)=xs:=by
 have a:(X.drop i)[0]? =some x:=by rw[h];rfl
 rw[List.getElem?_drop,Nat.add_zero]at a;refine⟨a,?_⟩;rw[←List.drop_drop,h];rfl
theorem g1K {P:Program} (d:Nat) (w:World) (X Y:List Value): ∀(q:List Field) (i:Nat) (t:List Nat) (b:Bool),u0E P q i=some t→eqK t (X.drop i) (Y.drop i)=some b→(Op.eqFields (d+1) X.toArray Y.toArray q).run P w= .ok b w
 | [],i,t,b,hk,he=>by
  simp only[u0E,Option.some.injEq]at hk;subst hk;simp only[eqK,Option.some.injEq]at he;subst he;simp[Op.eqFields]
 |f::q,i,t,b,hk,he=>by
  simp only[u0E]at hk;split at hk
  case isFalse=>cases hk
  rename_i z;obtain⟨B,C⟩:=z;have step: ∀(u v:Value) (r:Bool),X[i]? =some u→Y[i]? =some v→f0Q P f.type=true→(Op.equalIn (d+1) f.type u v).run P w= .ok r w→
   (Op.eqFields (d+1) X.toArray Y.toArray (f::q)).run P w=(match r with|true=>(Op.eqFields (d+1) X.toArray Y.toArray q).run P w|false=> .ok false w):=by
   intro u v r hu E s D;simp only[Op.eqFields,if_pos B,C,Sem.run_bind,i1P s hu,i1P s E,Result.andThen_ok,D];cases r<;>simp
  split at hk
  ·rename_i k hu;obtain⟨o,e,rfl⟩:=Option.map_eq_some_iff.1 hk;cases c:X.drop i with
   |nil=>rw[c]at he;simp[eqK]at he
   |cons x xs=>
    cases l:Y.drop i with
    |nil=>rw[c,l]at he;cases x<;>simp[eqK]at he
    |cons y ys=>
     obtain⟨h,g⟩:=s0Q c;obtain⟨n,m⟩:=s0Q l;rw[c,l]at he;cases x<;>try (simp[eqK]at he;done)
     cases y<;>try (simp[eqK]at he;done)
     rename_i j a F p;simp only[eqK]at he;split at he
     case isFalse=>cases he
     rename_i A;subst A;rw[step _ _ (a == p) h n (by simp[f0Q,hu]) (run_equalIn_int w d f.type j k a p hu)];split at he
     ·exact g1K d w X Y q (i+1) o b e (by rw[g,m];exact he)
     ·simp only[Option.some.injEq]at he;subst he;rfl
  ·rename_i hu;obtain⟨o,e,rfl⟩:=Option.map_eq_some_iff.1 hk;cases c:X.drop i with
   |nil=>rw[c]at he;simp[eqK]at he
   |cons x xs=>
    cases l:Y.drop i with
    |nil=>rw[c,l]at he;cases x<;>simp[eqK]at he
    |cons y ys=>
     obtain⟨h,g⟩:=s0Q c;obtain⟨n,m⟩:=s0Q l;rw[c,l]at he;cases x<;>try (simp[eqK]at he;done)
     cases y<;>try (simp[eqK]at he;done)
     rename_i a p;simp only[eqK]at he;rw[step _ _ (a.toList == p.toList) h n (by simp[f0Q,hu]) (run_equalIn_string w d f.type a p hu)];split at he
     ·exact g1K d w X Y q (i+1) o b e (by rw[g,m];exact he)
     ·simp only[Option.some.injEq]at he;subst he;rfl
  ·rename_i hu;obtain⟨o,e,rfl⟩:=Option.map_eq_some_iff.1 hk;cases c:X.drop i with
   |nil=>rw[c]at he;simp[eqK]at he
   |cons x xs=>
    cases l:Y.drop i with
    |nil=>rw[c,l]at he;cases x<;>simp[eqK]at he
    |cons y ys=>
     obtain⟨h,g⟩:=s0Q c;obtain⟨n,m⟩:=s0Q l;rw[c,l]at he;cases x<;>try (simp[eqK]at he;done)
     cases y<;>try (simp[eqK]at he;done)
     rename_i a p;simp only[eqK]at he;rw[step _ _ (a == p) h n (by simp[f0Q,hu]) (Go.run_equalIn_bool w d f.type a p hu)];split at he
     ·exact g1K d w X Y q (i+1) o b e (by rw[g,m];exact he)
     ·simp only[Option.some.injEq]at he;subst he;rfl
  ·cases hk
section
variable {c:Cx} {env:List (Nat×Value)} {L:List a0E} {d:Option Tmp} {ty:TypeId} {pos:String} {af:Array Edge} {g:Option (Nat×Bool)}
end
end
end Go.Sl

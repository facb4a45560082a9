/- Part of the proof; no statement of its own. -/
import Derived.Test.YtpinhnikemamjaaGreatDoorS03
import Derived.Laws.MakeOwn
import Derived.Laws.Tables
import Derived.Laws.IdiomStrings
import Derived.Test.YtpinhnikemamjaaGreatDoorS01
import Derived.Laws.BitsLemmas
import Derived.ProofKit
import Derived.WalkKit
import Derived.OpenShut
import Derived.JoinedCond
import Derived.Carry
import Derived.Recover
import Derived.Laws.StructEq
set_option linter.all false
set_option maxRecDepth 4000
set_option maxHeartbeats 4000000
namespace Go.Sl
open Go.BigFrame
section
def i1L (P:Program) (t:TypeId):Option (List (Nat×Nat)×Value):=
 match P.info? t,P.underlying t with
 |some it,some (.struct fields)=>
  match it.zero,fields.toList.mapM (fun f=>(P.info? f.type).map fun i=>(f.offset,i.size))with
  |some z,some places=>some (places,z)
  |_,_=>none
 |_,_=>none
def m0O (place:Nat→Option (Nat×Nat)):List Value→List (Nat×List Value)→Option (List Value)
 |cs,[]=>some cs
 |cs,(i,vs)::r=>match place i with
  |some (off,size)=>match Nat.beq vs.length size&&Nat.ble (off+vs.length) cs.length with
   |true=>m0O place (cs.take off++(vs++cs.drop (off+vs.length))) r
   |false=>none
  |none=>none
theorem a2T (off:Nat): ∀(l:List Value) (k:Nat) (cs:Array Value),off+k+l.length≤cs.size→
 (l.zipIdx k).foldl (fun cs (c,j)=>cs.setIfInBounds (off+j) c) cs=(cs.toList.take (off+k)++(l++cs.toList.drop (off+k+l.length))).toArray
 | [],k,cs,h=>by simp
 |v::l,k,cs,h=>by
  simp only[List.length_cons]at h;rw[List.zipIdx_cons,List.foldl_cons,a2T off l (k+1) _ (by simp;omega)];apply Array.ext';simp only[Array.toList_setIfInBounds,List.length_cons];apply List.ext_getElem?;intro n;simp only[List.getElem?_append,List.length_take,List.length_set,Array.length_toList,List.getElem?_take,List.getElem?_drop,List.getElem?_set,List.length_cons,List.getElem?_cons];rw[Nat.min_eq_left (by omega),Nat.min_eq_left (by omega)];by_cases h1:n<off+k
  ·simp[h1,show n<off+(k+1) by omega,show ¬off+k=n by omega]
  ·by_cases h2:n=off+k
   ·subst h2;simp[show off+k<off+(k+1) by omega,show off+k<cs.size by omega]
   ·simp only[show ¬n<off+(k+1) by omega,h1,if_false];by_cases h3:n- (off+(k+1))<l.length
    ·simp only[h3,show n- (off+k)<l.length+1 by omega,if_true];rw[if_neg (by omega)];congr 1
    ·simp only[h3,show ¬n- (off+k)<l.length+1 by omega,if_false];rw[if_neg (by omega)];congr 1;omega
theorem w0J {place:Nat→Option (Nat×Nat)} : ∀(parts:List (Nat×Value)) (cs:Array Value) (out:List Value),m0O place cs.toList (parts.map fun(i,v)=>(i,v.cells.toList))=some out→
 Instr.fill place cs parts=some out.toArray
 | [],cs,out,h=>by simp[m0O]at h;subst h;simp[Instr.fill]
 | (i,v)::r,cs,out,h=>by
  simp only[List.map_cons,m0O]at h;split at h
  ·rename_i off size hp;split at h
   ·rename_i hb;simp only[Bool.and_eq_true,Nat.ble_eq,Array.length_toList]at hb;have hb1:v.cells.size=size:=by have:=Nat.eq_of_beq_eq_true hb.1;simpa using this
    have hb2:=hb.2;have h2:=a2T off v.cells.toList 0 cs (by simpa using hb.2);have h3:v.cells.zipIdx.foldl (fun cs (c,j)=>cs.setIfInBounds (off+j) c) cs=(cs.toList.take off++(v.cells.toList++cs.toList.drop (off+v.cells.toList.length))).toArray:=by
     rw[←Array.foldl_toList,Array.toList_zipIdx];simpa using h2
    have h4:=w0J r ((cs.toList.take off++(v.cells.toList++cs.toList.drop (off+v.cells.toList.length))).toArray) out (by simpa using h);simp only[Instr.fill,hp,h3];rw[if_neg (by simp only[Bool.or_eq_true,decide_eq_true_eq];intro h5;cases h5 with|inl h6=>exact h6 hb1|inr h6=>exact absurd hb2 (Nat.not_le.2 h6))];exact h4
   ·cases h
  ·cases h
section
variable {c:Cx} {ops:Array Oper} {Q:Exit→Act→World→Prop} {rest:List Oper} {env:List (Nat×Value)} {L M:List a0E}
 {d:Tmp} {ty:TypeId} {pos:String} {af:Array Edge} {gd:Option (Nat×Bool)}
def p0X (env:List (Nat×Value)):List (Nat×Operand)→Option (List (Nat×Value))
 | []=>some []
 | (i,x)::r=>match evo env x with
  |some v=>match p0X env r with
   |some ps=>some ((i,v)::ps)
   |none=>none
  |none=>none
theorem v0B {a:Act} {w:World} (hh:b0J c env L a w): ∀(ps:List (Nat×Operand)) (vs:List (Nat×Value)),p0X env ps=some vs→(ps.map fun(i,x)=>(i,a.eval x))=vs
 | [],vs,h=>by simp[p0X]at h;subst h;rfl
 | (i,x)::r,vs,h=>by
  simp only[p0X]at h;split at h
  ·rename_i v hv;split at h
   ·rename_i ps hps;simp only[Option.some.injEq]at h;subst h;simp[hh.eval hv,v0B hh r ps hps]
   ·cases h
  ·cases h
theorem s0P {t:TypeId} {parts:List (Nat×Operand)} {pl:List (Nat×Nat)} {z:Value} {ps:List (Nat×Value)} {cs:List Value} (hp:i1L c.P t=some (pl,z)) (hv:p0X env parts=some ps)
 (hf:m0O (nth pl) z.cells.toList (ps.map fun(i,v)=>(i,v.cells.toList))=some cs):a0P c ⟨some d,.build t parts.toArray,ty,pos,af,gd⟩ env L (.agg cs.toArray):=by
 intro a w hh;have h1:(parts.toArray.map fun(i,x)=>(i,a.eval x)).toList=ps:=by simpa using v0B hh parts ps hv
 have hb:c.P.built t (parts.toArray.map fun(i,x)=>(i,a.eval x)).toList=some cs.toArray:=by
  rw[h1];unfold i1L at hp;unfold Program.built;split at hp
  ·rename_i it fields e1 e2;split at hp
   ·rename_i z' places e3 e4;simp only[Option.some.injEq,Prod.mk.injEq]at hp;obtain⟨rfl,rfl⟩:=hp;simp only[e1,e2,e3,e4];have hpl:(fun i=>places.toArray[i]?)=nth places:=by funext i;simp[e0F]
    rw[hpl];exact w0J ps z'.cells cs hf
   ·cases hp
  ·cases hp
 unfold execOp;simp only[Sem.run_bind,run_build w t _ _ hb,Result.andThen_ok,Sem.run_pure]
def r0L (z:List Value) (n:Nat):List Value:=(List.replicate n z).flatten
theorem r1P (v:Value) (n:Nat):madeCells #[v] n=(List.replicate n v).toArray:=by
 apply Array.ext
 ·simp[madeCells]
 ·intro i h1 h2;simp[madeCells,Nat.mod_one]
theorem r1Q {x y:Operand} {t e:TypeId} {z v:Value} {k1 k2:IntKind} {n bytes:Nat} {i j:Int} (ht:c0X c.P t e 1=true) (hby:r0K c.P e bytes=true) (hz:h0D c.P e=some z) (hz1:z.cells= #[v])
 (hx:evo env x=some (.int k1 i)) (hy:evo env y=some (.int k2 j)) (hi:i=(n:Int)) (hj:j=(n:Int)) (hb:bytes*n≤281474976710656) (hn:n≤9223372036854775807)
 (h: ∀b,OW c ops Q rest ((d,.slice (some ⟨b,0,none⟩) n n)::env) (pts b (.cells (List.replicate n v).toArray e (0,0))::L)) (hd:Nat.blt d c.n=true:=by rfl):OW c ops Q (⟨some d,.makeSlice t x y,ty,pos,af,none⟩::rest) env L:=by
 subst hi;subst hj;refine d1Y (v:=fun b=> .slice (some ⟨b,0,none⟩) n n) (fun a w hh=> ?_) h hd;simp only[c0X,Bool.and_eq_true]at ht;obtain⟨ht1,ht2⟩:=ht;split at ht1
 case h_2=>cases ht1
 rename_i e' hu;simp only[beq_iff_eq]at ht1;subst ht1;unfold r0K at hby;split at ht2
 case h_2=>cases ht2
 rename_i ii hi;unfold h0D at hz;rw[hi]at hby hz;simp only[beq_iff_eq]at ht2 hby;have hb':((ii.bytes:Int))*(n:Int)≤281474976710656:=by rw[hby,←Int.natCast_mul];exact Int.ofNat_le.2 hb
 have hr:=run_make (P:=c.P) w t e' ii z hu hi hz k1 k2 n n (Int.natCast_nonneg n) (Int.le_refl _) hb' (by omega);unfold execOp;simp only[hh.eval hx,hh.eval hy,Sem.run_bind,hr,Result.andThen_ok,Sem.run_pure,Int.toNat_natCast,ht2,hz1,Nat.mul_one,r1P]
theorem n1P (z:Array Value) (n:Nat):(madeCells z (n*z.size)).toList=r0L z.toList n:=by
 induction n with
 |zero=>simp[madeCells,r0L]
 |succ n ih=>
  have e:r0L z.toList (n+1)=r0L z.toList n++z.toList:=by
   simp only[r0L,List.replicate_succ',List.flatten_append,List.flatten_cons,List.flatten_nil,List.append_nil]
  rw[e,←ih];apply List.ext_getElem
  ·simp[madeCells,Nat.add_mul]
  ·intro i h1 h2;simp only[madeCells,Array.getElem_toList,Array.getElem_map,Array.getElem_range,List.getElem_append,Array.length_toList,Array.size_map,Array.size_range];split
   ·rfl
   ·rename_i hlt;simp[madeCells,Nat.add_mul]at h1;have h3:i%z.size=i-n*z.size:=by
     rw[show i=(i-n*z.size)+n*z.size by omega,Nat.add_mul_mod_self_right,Nat.mod_eq_of_lt (by omega)];omega
    rw[h3];simp[show i-n*z.size<z.size by omega]
theorem w0G {t e size len:Nat} {parts:List (Nat×Operand)} {z:Value} {ps:List (Nat×Value)} {cs:List Value} (ht:c0X c.P t e size=true)
 (hz:h0D c.P e=some z) (hzs:z.cells.size=size) (hlen:Nat.ble (len*size) 16777216=true) (hv:p0X env parts=some ps)
 (hf:m0O (fun i=>some (i*size,size)) (r0L z.cells.toList len) (ps.map fun(i,v)=>(i,v.cells.toList))=some cs) (a:Act) (w:World) (hh:b0J c env L a w):
 (execOp a.eval ⟨some d,.buildSlice t len parts.toArray,ty,pos,af,gd⟩).run c.P w= .ok (.value (.slice (some ⟨w.heap.size,0,none⟩) len len)) (w.alloc (.cells cs.toArray e (0,0))):=by
 simp only[c0X,Bool.and_eq_true]at ht;obtain⟨ht1,ht2⟩:=ht;split at ht1
 case h_2=>cases ht1
 rename_i e' hu;simp only[beq_iff_eq]at ht1;subst ht1;split at ht2
 case h_2=>cases ht2
 rename_i ii hi;unfold h0D at hz;rw[hi]at hz;simp only[beq_iff_eq]at ht2;have hle: ¬len*ii.size>16777216:=by rw[ht2];have:=Nat.le_of_ble_eq_true hlen;omega
 have h1:List.map (fun x=>(x.1,a.eval x.2)) parts=ps:=v0B hh parts ps hv;have h2:Instr.fill (fun i=>some (i*size,size)) (madeCells z.cells (len*size)) ps=some cs.toArray:=by
  have:=n1P z.cells len;rw[hzs]at this;exact w0J ps _ cs (by rw[this];exact hf)
 unfold execOp;by_cases h0:len*ii.size=0
 ·have h3:Instr.fill (fun i=>some (i*size,size)) #[] ps=some cs.toArray:=by
   have e0:madeCells z.cells (len*size)= #[]:=by rw[←ht2,h0];simp[madeCells]
   rw[←e0];exact h2
  simp[Instr.buildSlice,run_underlying hu,sizeOf,typeInfo,hi,ht2,h1,newRow,ht2▸hle,ht2▸h0,Array.range_zero',h3]
 ·have e2:((Array.range (len*size)).map (z.cells[· %z.cells.size]!))=madeCells z.cells (len*size):=rfl;simp[Instr.buildSlice,run_underlying hu,sizeOf,typeInfo,hi,ht2,h1,newRow,ht2▸hle,ht2▸h0,zeroValue,hz];rw[e2,h2];simp
theorem r1R {t e size len:Nat} {parts:List (Nat×Operand)} {z:Value} {ps:List (Nat×Value)} {cs:List Value} (ht:c0X c.P t e size=true)
 (hz:h0D c.P e=some z) (hzs:z.cells.size=size) (hlen:Nat.ble (len*size) 16777216=true) (hv:p0X env parts=some ps)
 (hf:m0O (fun i=>some (i*size,size)) (r0L z.cells.toList len) (ps.map fun(i,v)=>(i,v.cells.toList))=some cs)
 (h: ∀b,OW c ops Q rest ((d,.slice (some ⟨b,0,none⟩) len len)::env) (pts b (.cells cs.toArray e (0,0))::L)) (hd:Nat.blt d c.n=true:=by rfl):OW c ops Q (⟨some d,.buildSlice t len parts.toArray,ty,pos,af,none⟩::rest) env L:=
 d1Y (v:=fun b=> .slice (some ⟨b,0,none⟩) len len) (fun a w hh=>w0G ht hz hzs hlen hv hf a w hh) h hd
section
variable {Js:List p0G} {plan:g0N} {K:List a0E} {e0:List (Nat×Value)} {j:Nat}
theorem t0F {t e size len:Nat} {parts:List (Nat×Operand)} {z:Value} {ps:List (Nat×Value)} {cs:List Value} (hi:ops[j]? =some ⟨some d,.buildSlice t len parts.toArray,ty,pos,af,gd⟩) (he:Sub env e0) (hw: ∀a w,b0J c e0 [] a w→Region.wanted ⟨some d,.buildSlice t len parts.toArray,ty,pos,af,gd⟩ (yielded ops a.tmps)=true)
 (ht:c0X c.P t e size=true) (hz:h0D c.P e=some z) (hzs:z.cells.size=size) (hlen:Nat.ble (len*size) 16777216=true) (hv:p0X e0 parts=some ps)
 (hf:m0O (fun i=>some (i*size,size)) (r0L z.cells.toList len) (ps.map fun(i,v)=>(i,v.cells.toList))=some cs)
 (hfr:((c0E env d).isNone&&((Js.all fun q=> !Nat.beq q.d d&&(c0E q.e0 d).isNone&&(c0E e0 q.d).isNone)&&(c0E e0 d).isNone))=true)
 (h:OMf c ops Q K (⟨j,d,fun b=> .slice (some ⟨b,0,none⟩) len len,.cells cs.toArray e (0,0),e0⟩::Js) plan env L) (hd:Nat.blt d c.n=true:=by rfl):OMf c ops Q K Js (.float j plan) env L:=
 p1K (p:=⟨j,d,fun b=> .slice (some ⟨b,0,none⟩) len len,.cells cs.toArray e (0,0),e0⟩) ⟨_,hi,rfl,hd,fun a w hh=>⟨hw a w hh,w0G ht hz hzs hlen hv hf a w hh⟩⟩ he hfr h
theorem j0Y {e:TypeId} {z:Value} (hi:ops[j]? =some ⟨some d,.alloc e,ty,pos,af,gd⟩) (he:Sub env e0) (hw: ∀a w,b0J c e0 [] a w→Region.wanted ⟨some d,.alloc e,ty,pos,af,gd⟩ (yielded ops a.tmps)=true)
 (hz:h0D c.P e=some z)
 (hfr:((c0E env d).isNone&&((Js.all fun q=> !Nat.beq q.d d&&(c0E q.e0 d).isNone&&(c0E e0 q.d).isNone)&&(c0E e0 d).isNone))=true)
 (h:OMf c ops Q K (⟨j,d,fun b=> .pointer (some ⟨b,0,none⟩),.cells z.cells e (0,0),e0⟩::Js) plan env L) (hd:Nat.blt d c.n=true:=by rfl):OMf c ops Q K Js (.float j plan) env L:=
 p1K (p:=⟨j,d,fun b=> .pointer (some ⟨b,0,none⟩),.cells z.cells e (0,0),e0⟩) ⟨_,hi,rfl,hd,fun a w hh=>⟨hw a w hh,by
  unfold h0D at hz;split at hz
  ·rename_i i hi;simp[execOp,Instr.alloc,zeroValue,typeInfo,hi,hz,newVar,newRow]
  ·cases hz⟩⟩ he hfr h
end
theorem i0N {t e' size':Nat} {x:Operand} {v:Value} {e size n:Nat} {xs:List Value} (ht:c0X c.P t e' size'=true) (hx:evo env x=some v) (hL:Fnd L (b0I e size v n xs) M):
 a0P c ⟨some d,.call {callee:= .builtin .len,args:= #[x],argTypes:= #[t]},ty,pos,af,gd⟩ env L (.int .i64 n):=by
 intro a w hh;obtain⟨_,hcase⟩:=f0O (hL.sat hh.sat);rcases hcase with ⟨rfl,rfl,_⟩| ⟨g,cap,cur,rfl,_⟩
 ·exact r0Z ht hx a w hh
 ·exact r0Z ht hx a w hh
theorem f0I {tx e' s' size b o n cap:Nat} {news cs:List Value} {e:TypeId} {fr:Nat×Nat} {M:List a0E} (hk:c0X c.P tx e' s'=true) [hL:o0G L b (.cells cs.toArray e fr) M]
 (hn:(cs.drop o).take (n*size)=news) (hl:news.length=n*size) (h1: ∀u∈news,u.oneCell'=true): ∀a w,b0J c env L a w→Src c.P size tx (.slice (some ⟨b,o,none⟩) n cap) n news w:=by
 intro a w hh;simp only[c0X,Bool.and_eq_true]at hk;obtain⟨hk1,_⟩:=hk;split at hk1
 case h_2=>cases hk1
 rename_i e2 hu;refine Src.ofSlice w hu _ _ _ _ hl (fun j u hj=> ?_) h1;have hb:=(hL.sat hh.sat).pts;have hj':j<n*size:=by rw[←hl];exact(List.getElem?_eq_some_iff.1 hj).1
 rw[←hn,List.getElem?_take_of_lt hj',List.getElem?_drop]at hj;simp[World.cell?,j0C,hb,hj]
theorem n1Q {tx:Nat} {s:ByteArray} (hk:g0D c.P tx=true): ∀a w,b0J c env L a w→Src c.P 1 tx (.string s) s.size (byteCells s) w:=by
 intro a w _;unfold g0D at hk;split at hk
 ·rename_i hu;exact Src.ofString w hu s
 ·cases hk
def a0Q (b:UInt8):Value:= .int .u8 b.toNat
def p0S (s:ByteArray) (cap:Nat):List Value:=s.data.toList.map a0Q++List.replicate (cap-s.size) (.int .u8 0)
theorem d1P (s:ByteArray) (cap:Nat):bytesRow s cap=(p0S s cap).toArray:=by
 apply Array.ext';simp[bytesRow,p0S,a0Q]
def b1I (P:Program) (e:TypeId):Bool:=match P.underlying e with|some (.int .u8)=>true|_=>false
theorem s1P {x:Operand} {src dst e:TypeId} {s:ByteArray} (hs:g0D c.P src=true) (hd':c0X c.P dst e 1=true) (he:b1I c.P e=true) (hx:evo env x=some (.string s))
 (hsz:s.size≤maxLen) (h: ∀b cap,s.size≤cap→cap≤maxLen→OW c ops Q rest ((d,.slice (some ⟨b,0,none⟩) s.size cap)::env) (pts b (.cells (p0S s cap).toArray e (cap,cap+1))::L)) (hd:Nat.blt d c.n=true:=by rfl):
 OW c ops Q (⟨some d,.convert src dst x,ty,pos,af,none⟩::rest) env L:=by
 intro a w hh;have e1:c.P.underlying src=some .string:=by
  unfold g0D at hs;split at hs<;>simp_all
 have e2:c.P.underlying dst=some (.slice e):=by
  unfold c0X at hd';simp only[Bool.and_eq_true]at hd';obtain⟨h1,_⟩:=hd';split at h1<;>simp_all
 have e3:c.P.underlying e=some (.int .u8):=by
  unfold b1I at he;split at he<;>simp_all
 refine wpList_plain rfl fun K hK=> ?_;unfold Oper.wp;have hr:=run_bytes_of_string (P:=c.P) w src dst e s e1 e2 e3;have hcap:s.size≤grownCap w s.size 0 e:=grownCap_ge w s.size 0 e;have hlen:(bytesRow s (grownCap w s.size 0 e)).size=grownCap w s.size 0 e:=by
  rw[d1P];simp[p0S];have:s.data.size=s.size:=rfl;omega
 rw[hlen,d1P]at hr;unfold execOp;simp only[hh.eval hx,Sem.run_bind,hr,Result.andThen_ok,Sem.run_pure,Oper.upon];have hh':b0J c env (pts w.heap.size (.cells (p0S s (grownCap w s.size 0 e)).toArray e (grownCap w s.size 0 e,grownCap w s.size 0 e+1))::L) a (w.drew.alloc (.cells (p0S s (grownCap w s.size 0 e)).toArray e (grownCap w s.size 0 e,grownCap w s.size 0 e+1))):=
  ⟨hh.size,hh.slots,hh.defers,(hh.sat.drew).alloc _,(hh.like.drew).alloc _⟩
 exact hK _ _ (h w.heap.size _ hcap (grownCap_le_maxLen w s.size 0 e hsz) _ _ (hh'.put d _ hd))
theorem e1C {x:Operand} {src dst e:TypeId} {b o n cap:Nat} {cs:List Value} {e':TypeId} {fr:Nat×Nat} {l:List UInt8} {Mo:List a0E} (hs:c0X c.P src e 1=true) (hd':g0D c.P dst=true) (he:b1I c.P e=true)
 (hx:evo env x=some (.slice (some ⟨b,o,none⟩) n cap)) [hL:o0G L b (.cells cs.toArray e' fr) Mo] (hn:l.length=n) (hc:(cs.drop o).take n=l.map a0Q):
 a0P c ⟨some d,.convert src dst x,ty,pos,af,gd⟩ env L (.string ⟨l.toArray⟩):=by
 intro a w hh;have e1:c.P.underlying dst=some .string:=by
  unfold g0D at hd';split at hd'<;>simp_all
 have e2:c.P.underlying src=some (.slice e):=by
  unfold c0X at hs;simp only[Bool.and_eq_true]at hs;obtain⟨h1,_⟩:=hs;split at h1<;>simp_all
 have e3:c.P.underlying e=some (.int .u8):=by
  unfold b1I at he;split at he<;>simp_all
 have hblk:=(hL.sat hh.sat).pts;subst hn;have hr:=run_convert_bytes_back (P:=c.P) w src dst e ⟨b,o,none⟩ cap l e2 e3 e1 (fun j hj=>by
  have:((cs.drop o).take l.length)[j]? =some (a0Q l[j]):=by rw[hc];simp[hj]
  rw[List.getElem?_take_of_lt hj,List.getElem?_drop]at this;simp[World.cell?,j0C,hblk,this,a0Q])
 unfold execOp;simp only[hh.eval hx,Sem.run_bind,hr,Result.andThen_ok,Sem.run_pure]
theorem y0V {x:Operand} {src dst e n:Nat} {v:Value} {l:List UInt8} {M:List a0E} (hs:c0X c.P src e 1=true) (hd':g0D c.P dst=true) (he:b1I c.P e=true)
 (hx:evo env x=some v) (hL:Fnd L (b0I e 1 v n (l.map a0Q)) M):a0P c ⟨some d,.convert src dst x,ty,pos,af,gd⟩ env L (.string ⟨l.toArray⟩):=by
 intro a w hh;have e1:c.P.underlying dst=some .string:=by
  unfold g0D at hd';split at hd'<;>simp_all
 have e2:c.P.underlying src=some (.slice e):=by
  unfold c0X at hs;simp only[Bool.and_eq_true]at hs;obtain⟨h1,_⟩:=hs;split at h1<;>simp_all
 have e3:c.P.underlying e=some (.int .u8):=by
  unfold b1I at he;split at he<;>simp_all
 obtain⟨hl,hc⟩:=f0O (hL.sat hh.sat);simp only[List.length_map,Nat.mul_one]at hl;rcases hc with ⟨rfl,rfl,_⟩| ⟨g,cap,cur,rfl,h1,h2,h3,h4,h5⟩
 ·have hl0:l= []:=List.eq_nil_of_length_eq_zero hl;subst hl0;have hr:=run_convert_bytes_string (P:=c.P) w src dst e none 0 0 e2 e3 e1;unfold execOp;simp only[hh.eval hx,Sem.run_bind,hr,Conv.bytesToString,Sem.run_pure,Result.andThen_ok];rfl
 ·subst hl;have hblk:=h5.pts;have hr:=run_convert_bytes_back (P:=c.P) w src dst e ⟨g,0,none⟩ cap l e2 e3 e1 (fun j hj=>by
   have:(cur.take (l.length*1))[j]? =some (a0Q l[j]):=by rw[h4];simp[hj]
   rw[List.getElem?_take_of_lt (by omega)]at this;simp[World.cell?,j0C,hblk,this,a0Q])
  unfold execOp;simp only[hh.eval hx,Sem.run_bind,hr,Result.andThen_ok,Sem.run_pure]
variable {y:Code}
theorem b0U {L':List a0E} (hs: ∀w,Sat w L→Sat w L') (h:CW c y Q env L'):CW c y Q env L:=fun a w hh=>h a w ⟨hh.size,hh.slots,hh.defers,hs w hh.sat,hh.like⟩
theorem b0F {e:Exit} {L':List a0E} (hs: ∀w,Sat w L→Sat w L') (h:KW c Q e env L'):KW c Q e env L:=fun a w hh=>h a w ⟨hh.size,hh.slots,hh.defers,hs w hh.sat,hh.like⟩
theorem e0X {L':List a0E} (hs: ∀w,Sat w L→Sat w L') (h:OW c ops Q rest env L'):OW c ops Q rest env L:=fun a w hh=>h a w ⟨hh.size,hh.slots,hh.defers,hs w hh.sat,hh.like⟩
theorem f0E (e:TypeId) (size:Nat) {L:List a0E} (w:World) (h:Sat w L):Sat w (b0I e size (.slice none 0 0) 0 []::L):=s1O e size h
end
theorem i1M (s:ByteArray) (cap i:Nat) (h:i<s.size) (k:Nat) (hk:k=i):nth (p0S s cap) k=some (a0Q (s.data.toList[i]'(by simpa using h))):=by
 subst hk;have hl:k<(s.data.toList.map a0Q).length:=by simpa using h
 rw[e0F,p0S,List.getElem?_append_left hl,List.getElem?_eq_getElem hl,List.getElem_map]
end
end Go.Sl
namespace Go.Sl
theorem d2P (x:Int) (p q:Nat) (hp:0<p) (hq:0<q) (hd:p ∣ q):(x% (q:Int)).toNat%p=(x% (p:Int)).toNat:=by
 have h1:((x% (q:Int)).toNat:Int)=x% (q:Int):=Int.toNat_of_nonneg (Int.emod_nonneg _ (by omega));have h0:((x% (p:Int)).toNat:Int)=x% (p:Int):=Int.toNat_of_nonneg (Int.emod_nonneg _ (by omega));have h2:(((x% (q:Int)).toNat%p:Nat):Int)=x% (p:Int):=by
  rw[Int.natCast_emod,h1];exact Int.emod_emod_of_dvd _ (Int.natCast_dvd_natCast.2 hd)
 omega
theorem e0P (k:IntKind) (n:Int) (h0:0≤n) (h1:n<((2^(k.bits-1):Nat):Int)):k.wrap n=n:=by
 have hlt:((2^(k.bits-1):Nat):Int)≤((2^k.bits:Nat):Int):=Int.ofNat_le.2 (Nat.pow_le_pow_right (by decide) (Nat.sub_le _ _));have e1:((2^(k.bits-1):Nat):Int)=(2:Int)^(k.bits-1):=by rw[Int.natCast_pow];rfl
 have e2:((2^k.bits:Nat):Int)=(2:Int)^k.bits:=by rw[Int.natCast_pow];rfl
 rw[e1]at h1 hlt;rw[e2]at hlt;have hq:n% (2:Int)^k.bits=n:=Int.emod_eq_of_lt h0 (Int.lt_of_lt_of_le h1 hlt);unfold IntKind.wrap;simp only[hq];rw[if_neg];simp only[Bool.and_eq_true,decide_eq_true_eq];rintro⟨_,hge⟩;exact absurd h1 (Int.not_lt.2 hge)
theorem b1J (k:IntKind) (i:Nat) (hi:i≤7∨(i≤31∧32≤k.bits)) (m:Nat) (hm:m=2^i-1) (x:Int):bits .and k x m=x% ((2^i:Nat):Int):=by
 have hkb:i<k.bits∧(k.signed=true→i<k.bits):=by
  have:8≤k.bits:=by cases k<;>decide
  omega
 have hpos:0<2^i:=Nat.two_pow_pos i;have hlt:2^i-1<2^k.bits:=Nat.lt_of_lt_of_le (Nat.sub_lt hpos (by decide)) (Nat.pow_le_pow_right (by decide) (Nat.le_of_lt hkb.1));have hx:(BitVec.ofInt k.bits x).toNat%2^i=(x% ((2^i:Nat):Int)).toNat:=by
  rw[BitVec.toNat_ofInt];exact d2P x _ _ hpos (Nat.two_pow_pos _) (Nat.pow_dvd_pow 2 (Nat.le_of_lt hkb.1))
 have hr0:0≤x% ((2^i:Nat):Int):=Int.emod_nonneg _ (by omega);have hr1:x% ((2^i:Nat):Int)<((2^i:Nat):Int):=Int.emod_lt_of_pos _ (by omega);subst hm;simp only[bits,BitVec.ofInt_natCast,BitVec.toNat_and,BitVec.toNat_ofNat,Nat.mod_eq_of_lt hlt,Nat.and_two_pow_sub_one_eq_mod,hx];rw[Int.toNat_of_nonneg hr0];generalize x% ((2^i:Nat):Int)=r at hr0 hr1;refine e0P k r hr0 (Int.lt_of_lt_of_le hr1 ?_);have h1:2^i≤2^(k.bits-1):=Nat.pow_le_pow_right (by decide) (by
  have:8≤k.bits:=by cases k<;>decide
  omega)
 exact Int.ofNat_le.2 h1
theorem t2F (a b:Nat) (ha:a<9223372036854775808) (hb:b<9223372036854775808):bits .xor .i64 (a:Int) (b:Int)=((a ^^^ b:Nat):Int):=by
 have h:a ^^^ b<2^63:=Nat.xor_lt_two_pow (by simpa using ha) (by simpa using hb);have e1:a%2^IntKind.i64.bits=a:=Nat.mod_eq_of_lt (by simp only[IntKind.bits];omega);have e2:b%2^IntKind.i64.bits=b:=Nat.mod_eq_of_lt (by simp only[IntKind.bits];omega);simp only[bits,BitVec.ofInt_natCast,BitVec.toNat_xor,BitVec.toNat_ofNat,e1,e2];exact e0P .i64 _ (Int.natCast_nonneg _) (Int.ofNat_lt.2 h)
theorem x2F (a b:Nat) (ha:a*256<18446744073709551616) (hb:b<256):bits .or .u64 ((a*256:Nat):Int) (b:Int)=((a*256+b:Nat):Int):=by
 have e1:(a*256)%2^IntKind.u64.bits=a*256:=Nat.mod_eq_of_lt (by simp only[IntKind.bits];omega);have e2:b%2^IntKind.u64.bits=b:=Nat.mod_eq_of_lt (by simp only[IntKind.bits];omega);have e3:a*256 ||| b=a*256+b:=by
  have:=Nat.two_pow_add_eq_or_of_lt (i:=8) (b:=b) (by simpa using hb) a;rw[Nat.mul_comm a 256];exact this.symm
 simp only[bits,BitVec.ofInt_natCast,BitVec.toNat_or,BitVec.toNat_ofNat,e1,e2,e3];simp only[IntKind.wrap,IntKind.bits,IntKind.signed,Bool.false_and,Bool.false_eq_true,if_false];exact Int.emod_eq_of_lt (Int.natCast_nonneg _) (by omega)
theorem g1J (k:IntKind) (h:32≤k.bits) (x:Int):bits .and k x 255=x%256:=b1J k 8 (.inr ⟨by decide,h⟩) 255 (by decide) x
theorem i2K (k:IntKind) (x:Int):bits .and k x 15=x%16:=b1J k 4 (.inl (by decide)) 15 (by decide) x
theorem s1Q (k:IntKind) (x:Int):bits .and k x 31=x%32:=b1J k 5 (.inl (by decide)) 31 (by decide) x
theorem z2N (k:IntKind) (x:Int):bits .and k x 3=x%4:=b1J k 2 (.inl (by decide)) 3 (by decide) x
end Go.Sl
section
namespace Go.Sl
open Go.ChangeShapes Go.WideShapes Go.ChangeAt Go.RowKit Go.WideElems
open Go.ChangeMaps (open_string shut_string)
theorem i2L {P:Program} {f:FuncId} {args:Array Value} {W:World} {v:Value} (h:a0G P f args [whole W] (a0T v [whole W])):Calls P f args W fun e W'=>e= .returned v∧Below W.heap.size W W':=by
 have hs:Sat W ([whole W]++ [m0X True]):=((u0D (p:=True) (L:= [whole W])).2 ⟨trivial,i2F W⟩).perm (List.Perm.swap _ _ _);refine(h W _ hs).mono ?_;rintro e W' ⟨L',⟨rfl,rfl⟩,hsat,hl⟩;have hb: ∀k,k<W.heap.size→W'.heap[k]? =W.heap[k]? :=fun k hk=>hsat.whole_block k hk;refine⟨rfl,hl.os,hl.tape,hl.output,?_,hb⟩;rcases Nat.eq_zero_or_pos W.heap.size with h0|h0
 ·omega
 ·have h1:=hb (W.heap.size-1) (by omega);rw[Array.getElem?_eq_getElem (xs:=W.heap) (i:=W.heap.size-1) (by omega)]at h1;have:=(Array.getElem?_eq_some_iff.1 h1).1;omega
theorem d1Q {H:Type} {enc:TypeId×Value→H} {P:Program} (hl:laidOutB P=true) {W W':World} (hb:Below W.heap.size W W'):
 ∀ {ts:List TypeId} {vs:List Value} {ds:List (DataW H)} {ps:List MemPlace},(ts.all fun t=>P.readableRec t&&decide (t<P.types.size))=true→(∀p∈ps,p.block<W.heap.size)→
  DataW.TrodAll enc P W 0 (fun _=>true) true ts vs ds ps→DataW.TrodAll enc P W' 0 (fun b=>decide (b<W.heap.size)) true ts vs ds ps
 | [],vs,ds,ps,_,_,h=>by obtain⟨rfl,rfl,rfl⟩:=trodAll_nil h;exact trodAll_mk0
 |t::ts,vs,ds,ps,ht,hp,h=>by
  obtain⟨v,vs',d,ds',p,q,rfl,rfl,rfl,h1,h2⟩:=trodAll_cons h;simp only[List.all_cons,Bool.and_eq_true,decide_eq_true_eq]at ht;exact trodAll_cons_mk (Below.trod hl ht.1.1 ht.1.2 h1 hb (fun x hx=>hp x (by simp[hx]))) (d1Q hl hb (by simpa using ht.2) (fun x hx=>hp x (by simp[hx])) h2)
theorem n2V {H:Type} {enc:TypeId×Value→H} {P:Program} {f:Func} {s:ChangeSpec} {W W':World} {args:Array Value} {ds gs:List (DataW H)} {before:List MemPlace} {tb:TypeId}
 (hW:DataW.Whole enc P f.params.toList s.vars false W args.toList ds gs before) (hv:s.vars= []) (hb:Below W.heap.size W W') (hl:laidOutB P=true)
 (hp:(f.params.toList.all fun t=>P.readableRec t&&decide (t<P.types.size))=true) (hr:f.resultTypes= #[tb]) (hub:P.underlying tb=some .bool)
 (hfn:(s.fn H ds)= {results:= [.lit (.bool true)],args:=ds}):s.post enc P f false true false false W args (.bool true) W':=by
 have hW':=hW;obtain⟨p,q,hA,hV,rfl,hfz,hnd⟩:=hW;have hlt: ∀x∈p++q,x.block<W.heap.size:=fun x hx=>by simpa using hW'.lt x hx
 rw[hv]at hV;obtain⟨rfl,rfl⟩:=trodVars_none hV;refine⟨ds,[],_,[],p,[],hW',?_,?_,?_,hb.frame _,fun h=>by cases h⟩
 ·rw[hr];simp only[List.append_nil,hfn];exact trodAll_mk1 (shut_bool hub true)
 ·simp only[List.append_nil,hfn];exact d1Q hl hb hp (fun x hx=>hlt x (by simp[hx])) hA
 ·simp only[List.append_nil,hfn,hv];exact rfl
theorem a0G.imp {P:Program} {f:FuncId} {args:Array Value} {Pre:List a0E} {Post Post':Ending→List a0E→Prop} (h:a0G P f args Pre Post) (hi: ∀e L,Post e L→Post' e L):a0G P f args Pre Post':=by
 intro w F hs;refine(h w F hs).mono ?_;rintro e w' ⟨L',h1,h2,h3⟩;exact⟨L',hi e L' h1,h2,h3⟩
theorem a0G.weak {P:Program} {f:FuncId} {args:Array Value} {Pre:List a0E} {v:Value} {N:List a0E} (h:a0G P f args Pre (a0T v N)):a0G P f args Pre (a0T v []):=by
 intro w F hs;refine(h w F hs).mono ?_;rintro e w' ⟨L',⟨rfl,rfl⟩,h2,h3⟩;exact⟨[],⟨rfl,rfl⟩,h2.drop,h3⟩
section
variable {c:Cx} {env:List (Nat×Value)} {L M:List a0E} {d:Option Tmp} {ty:TypeId} {pos:String} {af:Array Edge} {g:Option (Nat×Bool)}
theorem d2Q {W w:World} {L:List a0E} {p:Addr} {v:Value} (h:Sat w (whole W::L)) (hc:W.cell? p=some v):w.cell? p=some v:=by
 have hlt:p.block<W.heap.size:=by
  rcases Nat.lt_or_ge p.block W.heap.size with h|h
  ·exact h
  ·unfold World.cell? at hc;rw[Array.getElem?_eq_none h]at hc;simp at hc
 rw[World.cell?_of_block (w:=W) (h.whole_block p.block hlt)];exact hc
theorem w0Z {x:Operand} {t:TypeId} {A:a0E} {p:Addr} {v:Value} (ht:f0Q c.P t=true) (hx:evo env x=some (.pointer (some p))) (hL:Fnd L A M) (hc: ∀(w:World) L',Sat w (A::L')→w.cell? p=some v):
 a0P c ⟨d,.load t x,ty,pos,af,g⟩ env L v:=by
 intro a w h;have hw:=hc w M (hL.sat h.sat);have e:(loadVar t p).run c.P w= .ok v w:=by
  simp[loadVar,Sem.run_bind,k0Z ht,Result.andThen_ok,run_load,hw]
 simp[execOp,h.eval hx,Instr.loadAt,Instr.sureAddr,e]
theorem i2M {t e n:TypeId} {x y:Operand} {q:Addr} {l cap:Nat} {k:IntKind} {i:Int} (ht:c0X c.P t e n=true) (hx:evo env x=some (.slice (some q) l cap)) (hy:evo env y=some (.int k i)) (hi:0≤i∧i<l):
 a0P c ⟨d,.indexAddr t x y,ty,pos,af,g⟩ env L (.pointer (some (q.add (i.toNat*n)))):=by
 intro a w h;simp only[c0X,Bool.and_eq_true]at ht;obtain⟨h1,h2⟩:=ht;split at h1
 ·rename_i z hu;simp at h1;subst h1;split at h2
  ·rename_i info hinfo;simp at h2;subst h2;simp[execOp,h.eval hx,h.eval hy,Instr.indexAt,run_underlying hu,asIntOf,hi.1,hi.2,sizeOf,typeInfo,hinfo]
  ·cases h2
 ·cases h1
end
end Go.Sl
namespace Go.Sl
open Go.ChangeShapes Go.WideShapes Go.ChangeAt Go.RowKit Go.WideElems
end Go.Sl
end
namespace Go.Sl
section
section
variable {c:Cx} {ops:Array Oper} {Q:Exit→Act→World→Prop} {rest:List Oper} {env:List (Nat×Value)} {L:List a0E} {d:Option Tmp} {ty:TypeId} {pos:String} {af:Array Edge} {g:Option (Nat×Bool)}
theorem n2W {x:Operand} {t:TypeId} {v:Value} (hx:evo env x=some (.iface t v)) (h:KW c Q (.panic [{v:= .iface t v,recovered:=false}]) env L):OW c ops Q (⟨d,.panic x,ty,pos,af,none⟩::rest) env L:=by
 intro a w hh;refine wpList_plain rfl fun K hK=> ?_;unfold Oper.wp;have hr:(execOp a.eval ⟨d,.panic x,ty,pos,af,none⟩).run c.P w= .halt (.panic (.iface t v)) w:=by
  simp[execOp,hh.eval hx,Instr.panic,goPanic]
 rw[hr];exact h a w hh
theorem i1N {ch:List PanicEntry} {id:Nat} (h:KW c Q (.panic ch) env L):KW c (Exit.inBlock id Q) (.panic ch) env L:=h
theorem r1S {ch:List PanicEntry} {X:Act→World→Prop} (h:KW c Q (.panic ch) env L):KW c (Exit.then X Q) (.panic ch) env L:=h
theorem c0A {dst:Option Tmp} {fx:Operand} {f:FuncId} {xs:List Operand} {ats:Array TypeId} {first vs cap:List Value} {Pre M N:List a0E} {ch:List PanicEntry}
 (hf:evo env fx=some (.func (.func f) first.toArray cap.toArray)) (hb:f0H c.P f=true) (hv:xs.mapM (evo env)=some vs) (hs:a0G c.P f (first++vs++cap).toArray Pre (fun en L=>en= .panicked ch∧L=N)) (hL:b0A L Pre M)
 (h:KW c Q (.panic ch) env (N++M)):OW c ops Q (⟨dst,.call {callee:= .value fx,args:=xs.toArray,argTypes:=ats},ty,pos,af,none⟩::rest) env L:=
 w0Y hf hb hv hs hL (fun u L' hp a w hh=>by cases hp.1) (fun ch' L' hp=>by obtain⟨e,rfl⟩:=hp;cases e;exact h) (fun L' hp=>by cases hp.1)
def n1R (P:Program) (t:TypeId):Bool:=match P.underlying t with|some (.interface _)=>true|_=>false
theorem s1R {x:Operand} {t yt:TypeId} {v:Value} {b:Bool} (ht:n1R c.P t=true) (hx:evo env x=some v) (hv:match v with| .nilIface=>b=true| .iface _ _=>b=false|_=>False):
 a0P c ⟨d,.binOp .eql t x (.const .nilIface) yt,ty,pos,af,g⟩ env L (.bool b):=by
 intro a w h;unfold n1R at ht;split at ht
 case h_2=>cases ht
 rename_i ms hu;cases v with
 |nilIface=>
  subst hv;have e2: ∀k,(Op.equalIn (k+1) t .nilIface .nilIface).run c.P w= .ok true w:=by intro k;simp[Op.equalIn,run_underlying hu]
  have e1:binOp .eql t .nilIface .nilIface=(do pure (.bool (←Op.equalIn (9999+1) t .nilIface .nilIface))):=rfl;have e3:(binOp .eql t .nilIface .nilIface).run c.P w= .ok (.bool true) w:=by rw[e1,Sem.run_bind,e2];rfl
  have e4:(eqGuard .eql t x (.const .nilIface) .nilIface .nilIface).run c.P w= .ok () w:=by simp[eqGuard]
  have hc:a.eval (.const .nilIface)= .nilIface:=rfl;simp only[execOp,h.eval hx,hc,Sem.run_bind,e4,Result.andThen_ok,e3,Sem.run_pure]
 |iface u z=>
  subst hv;have e2: ∀k,(Op.equalIn (k+1) t (.iface u z) .nilIface).run c.P w= .ok false w:=by intro k;simp[Op.equalIn,run_underlying hu]
  have e1:binOp .eql t (.iface u z) .nilIface=(do pure (.bool (←Op.equalIn (9999+1) t (.iface u z) .nilIface))):=rfl;have e3:(binOp .eql t (.iface u z) .nilIface).run c.P w= .ok (.bool false) w:=by rw[e1,Sem.run_bind,e2];rfl
  have e4:(eqGuard .eql t x (.const .nilIface) (.iface u z) .nilIface).run c.P w= .ok () w:=by simp[eqGuard]
  have hc:a.eval (.const .nilIface)= .nilIface:=rfl;simp only[execOp,h.eval hx,hc,Sem.run_bind,e4,Result.andThen_ok,e3,Sem.run_pure]
 |_=>exact hv.elim
theorem n2X {x:Operand} {xt t:TypeId} {v:Value} (ht:(match c.P.underlying t with|some (.interface _)|none=>false|_=>true)=true) (hx:evo env x=some (.iface t v)):
 a0P c ⟨d,.typeAssert x xt t true,ty,pos,af,g⟩ env L (.tuple #[v,.bool true]):=by
 intro a w h;cases hd:c.P.underlying t with
 |none=>rw[hd]at ht;cases ht
 |some k=>cases k<;>first| (rw[hd]at ht;cases ht;done)|simp[execOp,h.eval hx,Instr.typeAssert,run_underlying hd]
end
def r0W:FrameMode→Value×FrameMode
 | .panicking ({v,recovered:=false,goexit:=false} ::older)=>(v,.panicking ({v,recovered:=true} ::older))
 |m=>(.nilIface,m)
def b1K (P:Program) (f:FuncId) (args:Array Value) (u:FrameMode) (Pre:List a0E) (Post:Ending→FrameMode→List a0E→Prop):Prop:=
 ∀w (F:a0E),Sat w (Pre++ [F])→CallsD P f args u w fun e u' w'=> ∃L',Post e u' L'∧Sat w' (L'++ [F])∧d0S w w'
theorem n2Y {c:Frame} {cs:List Frame} (h:recoverD (c::cs)=none):r0W c.mode=(.nilIface,c.mode):=by
 simp only[recoverD]at h;unfold r0W;generalize c.mode=m at h ⊢;split
 ·simp at h
 ·rfl
theorem n2Z {c:Frame} {cs cs':List Frame} {v:Value} (h:recoverD (c::cs)=some (v,cs')):(r0W c.mode).1=v∧cs'= {c with mode:=(r0W c.mode).2} ::cs:=by
 simp only[recoverD]at h;unfold r0W;generalize c.mode=m at h ⊢;split at h
 ·simp only[Option.some.injEq,Prod.mk.injEq]at h;obtain⟨rfl,rfl⟩:=h;exact⟨rfl,rfl⟩
 ·cases h
theorem p1L {P:Program} {f:FuncId} {fn:Func} {id:Nat} {y:Code} {d1 d2:Nat} {t1 t2:TypeId} {p1 p2:String} {a1 a2:Array Edge} {args:List Value} {u:FrameMode} {Pre:List a0E} {Post:Ending→FrameMode→List a0E→Prop} {n:Nat}
 (hf:P.funcs[f]? =some fn) (hb:fn.body=some (.seq (.region id #[⟨some d1,.call {callee:= .builtin .recover,args:= #[],argTypes:= #[]},t1,p1,a1,none⟩,⟨some d2,.assign (.tmp d1),t2,p2,a2,none⟩] false) y))
 (hn:fn.ntmps=n) (hle':Nat.ble args.length n=true) (hd1:Nat.blt d1 n=true) (hd2:Nat.blt d2 n=true)
 (h: ∀F w0,CW ⟨P,n,[],w0⟩ y (BP P fn (fun e L=>Post e (r0W u).2 L) F w0) ((d2,(r0W u).1)::(d1,(r0W u).1)::j0X 0 args) (Pre++ [F])):b1K P f args.toArray u Pre Post:=by
 have hle:args.length≤n:=Nat.le_of_ble_eq_true hle';intro w F hsat;refine callsD_of_wpS hf hb fun c₀ cs hu=> ?_;have hh0:b0J ⟨P,n,[],w⟩ (j0X 0 args) (Pre++ [F]) {tmps:=args.toArray++Array.replicate (fn.ntmps-args.toArray.size) undef,defers:= []} w:=by
  refine⟨by simp[hn];omega,?_,rfl,hsat,d0S.refl w⟩;intro t v ht;obtain⟨_,h2⟩:=r0H args 0 t v ht;simp only[Nat.sub_zero]at h2;have hlt:t<args.length:=by
   rcases Nat.lt_or_ge t args.length with h'|h'
   ·exact h'
   ·rw[List.getElem?_eq_none h']at h2;cases h2
  rw[Array.getElem?_append_left (by simpa using hlt)];simpa using h2
 generalize ({tmps:=args.toArray++Array.replicate (fn.ntmps-args.toArray.size) undef,defers:= []} :Act)=a at hh0;refine wpS_seq (wpS_region ?_);have key: ∀(cs':List Frame),cs'= {c₀ with mode:=(r0W u).2} ::cs→
  y.wpS P (bodyPostS P fn c₀ cs fun e u' w'=> ∃L',Post e u' L'∧Sat w' (L'++ [F])∧d0S w w') ((a.put (some d1) (r0W u).1).put (some d2) (r0W u).1) cs' w:=by
  rintro cs' rfl;refine wpS_of_wp (wp_mono (h F w _ w ((hh0.put d1 _ hd1).put d2 _ hd2)) ?_);rintro e a' w' q;cases e with
  |normal=>obtain⟨q1,v,q2,q3⟩:=q;exact⟨q1,_,rfl,v,q2,q3⟩
  |ret=>obtain⟨q1,v,q2,q3⟩:=q;exact⟨q1,_,rfl,v,q2,q3⟩
  |panic ch=>obtain⟨q1,q2⟩:=q;exact⟨q1,_,rfl,q2⟩
  |outgrown=>exact⟨_,q⟩
  |exit _=>exact q.elim
  |goto _=>exact q.elim
 have hrec: ∀r:Act,(execOp r.eval ⟨some d1,.call {callee:= .builtin .recover,args:= #[],argTypes:= #[]},t1,p1,a1,none⟩).run P w= .ok .recover w:=fun r=>by
  simp[execOp,resolve,invoke];rfl
 have hasg: ∀v,(execOp (a.put (some d1) v).eval ⟨some d2,.assign (.tmp d1),t2,p2,a2,none⟩).run P w= .ok (.value v) w:=fun v=>
  s1K (c:=⟨P,n,[],w⟩) (env:=(d1,v)::j0X 0 args) (L:=Pre++ [F]) (by simp[evo,c0E]) _ _ (hh0.put d1 v hd1)
 subst hu;have hfin: ∀(cs':List Frame),cs'= {c₀ with mode:=(r0W c₀.mode).2} ::cs→wpOpsS P #[⟨some d1,.call {callee:= .builtin .recover,args:= #[],argTypes:= #[]},t1,p1,a1,none⟩,⟨some d2,.assign (.tmp d1),t2,p2,a2,none⟩]
  (Exit.thenS (y.wpS P (bodyPostS P fn c₀ cs fun e u' w'=> ∃L',Post e u' L'∧Sat w' (L'++ [F])∧d0S w w')) (bodyPostS P fn c₀ cs fun e u' w'=> ∃L',Post e u' L'∧Sat w' (L'++ [F])∧d0S w w')) [1] (a.put (some d1) (r0W c₀.mode).1) cs' w:=by
  intro cs' hcs;simp only[wpOpsS];have hw:Region.wanted ⟨some d2,.assign (.tmp d1),t2,p2,a2,none⟩ (yielded #[⟨some d1,.call {callee:= .builtin .recover,args:= #[],argTypes:= #[]},t1,p1,a1,none⟩,⟨some d2,.assign (.tmp d1),t2,p2,a2,none⟩] (a.put (some d1) (r0W c₀.mode).1).tmps)=true:=rfl;have hq:(#[⟨some d1,.call {callee:= .builtin .recover,args:= #[],argTypes:= #[]},t1,p1,a1,none⟩,⟨some d2,.assign (.tmp d1),t2,p2,a2,none⟩]:Array Oper)[1]? =some ⟨some d2,.assign (.tmp d1),t2,p2,a2,none⟩:=rfl;simp only[hq,hw,if_true,hasg,Oper.upon];exact key cs' hcs
 show wpOpsS P _ _ [0,1] a (c₀::cs) w;rw[wpOpsS];have hw:Region.wanted ⟨some d1,.call {callee:= .builtin .recover,args:= #[],argTypes:= #[]},t1,p1,a1,none⟩ (yielded #[⟨some d1,.call {callee:= .builtin .recover,args:= #[],argTypes:= #[]},t1,p1,a1,none⟩,⟨some d2,.assign (.tmp d1),t2,p2,a2,none⟩] a.tmps)=true:=rfl;have hq:(#[⟨some d1,.call {callee:= .builtin .recover,args:= #[],argTypes:= #[]},t1,p1,a1,none⟩,⟨some d2,.assign (.tmp d1),t2,p2,a2,none⟩]:Array Oper)[0]? =some ⟨some d1,.call {callee:= .builtin .recover,args:= #[],argTypes:= #[]},t1,p1,a1,none⟩:=rfl;simp only[hq,hw,if_true,hrec];cases hm:recoverD (c₀::cs)with
 |none=>
  have e:=n2Y hm;have:=hfin (c₀::cs) (by rw[e]);rw[e]at this;exact this
 |some r=>
  obtain⟨v,cs'⟩:=r;obtain⟨rfl,e2⟩:=n2Z hm;exact hfin cs' e2
def BPD (P:Program) (fn:Func) (Post:Ending→List a0E→Prop) (F:a0E) (w0:World):Exit→Act→World→Prop:=
 bodyPostD P fn fun e w'=> ∃L',Post e L'∧Sat w' (L'++ [F])∧d0S w0 w'
theorem z0P {P:Program} {f:FuncId} {fn:Func} {code:Code} {args:List Value} {Pre:List a0E} {Post:Ending→List a0E→Prop} {n:Nat}
 (hf:P.funcs[f]? =some fn) (hb:fn.body=some code) (hn:fn.ntmps=n) (hle':Nat.ble args.length n=true)
 (h: ∀F w0,CW ⟨P,n,[],w0⟩ code (BPD P fn Post F w0) (j0X 0 args) (Pre++ [F])):a0G P f args.toArray Pre Post:=by
 have hle:args.length≤n:=Nat.le_of_ble_eq_true hle';intro w F hsat;refine calls_of_wp_defers hf hb (h F w _ w ?_);refine⟨by simp[hn];omega,?_,rfl,hsat,d0S.refl w⟩;intro t v ht;obtain⟨_,h2⟩:=r0H args 0 t v ht;simp only[Nat.sub_zero]at h2;have hlt:t<args.length:=by
  rcases Nat.lt_or_ge t args.length with h'|h'
  ·exact h'
  ·rw[List.getElem?_eq_none h']at h2;cases h2
 rw[Array.getElem?_append_left (by simpa using hlt)];simpa using h2
section
variable {P:Program} {n:Nat} {ds:List Deferred} {w0:World} {ops:Array Oper} {Q:Exit→Act→World→Prop} {rest:List Oper} {env:List (Nat×Value)} {L:List a0E} {ty:TypeId} {pos:String} {af:Array Edge}
theorem i1O {fx:Operand} {f:FuncId} {xs:List Operand} {ats:Array TypeId} {first vs cap:List Value} (hf:evo env fx=some (.func (.func f) first.toArray cap.toArray)) (hv:xs.mapM (evo env)=some vs)
 (h:OW ⟨P,n,{target:= .fn (.func f) cap.toArray,args:=(first++vs).toArray} ::ds,w0⟩ ops Q rest env L):OW ⟨P,n,ds,w0⟩ ops Q (⟨none,.defer {callee:= .value fx,args:=xs.toArray,argTypes:=ats},ty,pos,af,none⟩::rest) env L:=by
 intro a w hh;refine wpList_plain rfl fun K hK=> ?_;unfold Oper.wp;have hargs:(xs.toArray.map a.eval)=vs.toArray:=by simp[s1B hh _ _ hv]
 have hrun:(execOp a.eval ⟨none,.defer {callee:= .value fx,args:=xs.toArray,argTypes:=ats},ty,pos,af,none⟩).run P w= .ok (.defer {target:= .fn (.func f) cap.toArray,args:=(first++vs).toArray}) w:=by
  simp only[execOp,resolve,hargs,hh.eval hf,Deferred.ofValue,Sem.run_bind,Sem.run_pure,Result.andThen_ok];simp
 rw[hrun];exact hK _ _ (h _ _ ⟨hh.size,hh.slots,by show _::a.defers=_;rw[hh.defers],hh.sat,hh.like⟩)
variable {fn:Func} {Post:Ending→List a0E→Prop} {F:a0E} {f:FuncId} {cap args:List Value}
theorem p1M {e:Exit} {u:FrameMode} (he:(e= .normal∨e= .ret)∧u= .returning∨ ∃ch,e= .panic ch∧u= .panicking ch) (hq: ∀a w,BPD P fn Post F w0 e a w→Q e a w) (hres:fn.results= #[]) (hb:f0H P f=true) {Pre N M R L':List a0E}
 (hs:b1K P f (args++cap).toArray u Pre (fun e u' L'=>(∃v,e= .returned v)∧settle u'= .returning∧L'=N)) (hL:b0A L Pre M) (hF:b0A (N++M) (F::L') R) (hp:Post (.returned (.tuple #[])) L'):
 KW ⟨P,n,[{target:= .fn (.func f) cap.toArray,args:=args.toArray}],w0⟩ Q e env L:=by
 intro a w hh;have hsat:Sat w (Pre++ [b0E M]):=by
  have h1:=hh.sat.perm hL;have h2:Sat w (b0E M::Pre):=b0M.2 (h1.perm List.perm_append_comm);exact h2.perm (List.perm_append_comm (l₁:= [b0E M]) (l₂:=Pre))
 have hrun:(invoke (.fn (.func f) cap.toArray) args.toArray).run P w= .ok (.enter f (args++cap).toArray) w:=by
  simp only[invoke];rw[show(args.toArray++cap.toArray)=(args++cap).toArray by simp];exact t0C hb _ w
 have hlv:Leaves P fn a.tmps (fun e w'=> ∃L',Post e L'∧Sat w' (L'++ [F])∧d0S w0 w') a.defers u w:=by
  rw[hh.defers];refine⟨by rcases he with ⟨_,rfl⟩| ⟨_,_,rfl⟩<;>simp,_,_,f,(args++cap).toArray,rfl,hrun,?_⟩;intro c₀ cs hc;obtain⟨e',u',w',fr,⟨L1,⟨⟨v,hv⟩,hset,rfl⟩,hs',hl⟩,hcm⟩:=hs w (b0E M) hsat c₀ cs hc;refine⟨e',u',w',fr,?_,hcm⟩;subst hv;show Leaves P fn a.tmps _ [] (settle u') w';rw[hset];have hsat':Sat w' (L1++M):=by
   have h1:Sat w' (b0E M::L1):=hs'.perm (List.perm_append_comm (l₁:=L1) (l₂:= [b0E M]));exact(b0M.1 h1).perm List.perm_append_comm
  refine⟨.tuple #[],?_,L',hp,((hsat'.perm hF.back).perm List.perm_append_comm).drop,hh.like.trans hl⟩;exact results_none hres _ _ _
 refine hq a w ?_;rcases he with ⟨rfl|rfl,rfl⟩| ⟨ch,rfl,rfl⟩<;>exact hlv
end
end
section
def u0E (P:Program):List Field→Nat→Option (List Nat)
 | [],_=>some []
 | f :: fs, i => if f.name ≠ "_" ∧ f.offset = i then
  match P.underlying f.type with
  |some (.int _)=>(u0E P fs (i+1)).map (0:: ·)
  |some .string=>(u0E P fs (i+1)).map (1:: ·)
  |some .bool=>(u0E P fs (i+1)).map (2:: ·)
  |_=>none
  else none
def n1S (P:Program) (t:TypeId):Option (List Nat):=
 match P.underlying t with
 |some (.struct fs)=>if !P.stoodInHeld t&& !P.eqGuardType P.depth t then u0E P fs.toList 0 else none
 |_=>none
def eqK:List Nat→List Value→List Value→Option Bool
 | [],_,_=>some true
 |0::ks,.int j a::xs,.int k b::ys=>if j=k then(match a == b with|true=>eqK ks xs ys|false=>some false)else none
 |1::ks,.string a::xs,.string b::ys=>match a.toList == b.toList with|true=>eqK ks xs ys|false=>some false
 |2::ks,.bool a::xs,.bool b::ys=>match a == b with|true=>eqK ks xs ys|false=>some false
 |_,_,_=>none
theorem i1P {P:Program} {t:TypeId} (ht:f0Q P t=true) {X:List Value} {i:Nat} {v:Value} (h:X[i]? =some v) (w:World):(part t X.toArray i).run P w= .ok v w:=by
 simp[part,k0Z ht,h]
theorem s0Q {α:Type} {X:List α} {i:Nat} {x:α} {xs:List α} (h:X.drop i=x::xs):X[i]? =some x∧X.drop (i+1)=xs:=by
 have h1:(X.drop i)[0]? =some x:=by rw[h];rfl
 rw[List.getElem?_drop,Nat.add_zero]at h1;refine⟨h1,?_⟩;rw[←List.drop_drop,h];rfl
theorem g1K {P:Program} (d:Nat) (w:World) (X Y:List Value): ∀(fs:List Field) (i:Nat) (ks:List Nat) (b:Bool),u0E P fs i=some ks→eqK ks (X.drop i) (Y.drop i)=some b→(Op.eqFields (d+1) X.toArray Y.toArray fs).run P w= .ok b w
 | [],i,ks,b,hk,he=>by
  simp only[u0E,Option.some.injEq]at hk;subst hk;simp only[eqK,Option.some.injEq]at he;subst he;simp[Op.eqFields]
 |f::fs,i,ks,b,hk,he=>by
  simp only[u0E]at hk;split at hk
  case isFalse=>cases hk
  rename_i hno;obtain⟨hn,ho⟩:=hno;have step: ∀(u v:Value) (r:Bool),X[i]? =some u→Y[i]? =some v→f0Q P f.type=true→(Op.equalIn (d+1) f.type u v).run P w= .ok r w→
   (Op.eqFields (d+1) X.toArray Y.toArray (f::fs)).run P w=(match r with|true=>(Op.eqFields (d+1) X.toArray Y.toArray fs).run P w|false=> .ok false w):=by
   intro u v r hu hv hsc hr;simp only[Op.eqFields,if_pos hn,ho,Sem.run_bind,i1P hsc hu,i1P hsc hv,Result.andThen_ok,hr];cases r<;>simp
  split at hk
  ·rename_i k hu;obtain⟨ks',hk',rfl⟩:=Option.map_eq_some_iff.1 hk;cases hx:X.drop i with
   |nil=>rw[hx]at he;simp[eqK]at he
   |cons x xs=>
    cases hy:Y.drop i with
    |nil=>rw[hx,hy]at he;cases x<;>simp[eqK]at he
    |cons y ys=>
     obtain⟨hxi,hxd⟩:=s0Q hx;obtain⟨hyi,hyd⟩:=s0Q hy;rw[hx,hy]at he;cases x<;>try (simp[eqK]at he;done)
     cases y<;>try (simp[eqK]at he;done)
     rename_i j a j' a';simp only[eqK]at he;split at he
     case isFalse=>cases he
     rename_i hj;subst hj;rw[step _ _ (a == a') hxi hyi (by simp[f0Q,hu]) (run_equalIn_int w d f.type j k a a' hu)];split at he
     ·exact g1K d w X Y fs (i+1) ks' b hk' (by rw[hxd,hyd];exact he)
     ·simp only[Option.some.injEq]at he;subst he;rfl
  ·rename_i hu;obtain⟨ks',hk',rfl⟩:=Option.map_eq_some_iff.1 hk;cases hx:X.drop i with
   |nil=>rw[hx]at he;simp[eqK]at he
   |cons x xs=>
    cases hy:Y.drop i with
    |nil=>rw[hx,hy]at he;cases x<;>simp[eqK]at he
    |cons y ys=>
     obtain⟨hxi,hxd⟩:=s0Q hx;obtain⟨hyi,hyd⟩:=s0Q hy;rw[hx,hy]at he;cases x<;>try (simp[eqK]at he;done)
     cases y<;>try (simp[eqK]at he;done)
     rename_i a a';simp only[eqK]at he;rw[step _ _ (a.toList == a'.toList) hxi hyi (by simp[f0Q,hu]) (run_equalIn_string w d f.type a a' hu)];split at he
     ·exact g1K d w X Y fs (i+1) ks' b hk' (by rw[hxd,hyd];exact he)
     ·simp only[Option.some.injEq]at he;subst he;rfl
  ·rename_i hu;obtain⟨ks',hk',rfl⟩:=Option.map_eq_some_iff.1 hk;cases hx:X.drop i with
   |nil=>rw[hx]at he;simp[eqK]at he
   |cons x xs=>
    cases hy:Y.drop i with
    |nil=>rw[hx,hy]at he;cases x<;>simp[eqK]at he
    |cons y ys=>
     obtain⟨hxi,hxd⟩:=s0Q hx;obtain⟨hyi,hyd⟩:=s0Q hy;rw[hx,hy]at he;cases x<;>try (simp[eqK]at he;done)
     cases y<;>try (simp[eqK]at he;done)
     rename_i a a';simp only[eqK]at he;rw[step _ _ (a == a') hxi hyi (by simp[f0Q,hu]) (Go.run_equalIn_bool w d f.type a a' hu)];split at he
     ·exact g1K d w X Y fs (i+1) ks' b hk' (by rw[hxd,hyd];exact he)
     ·simp only[Option.some.injEq]at he;subst he;rfl
  ·cases hk
section
variable {c:Cx} {env:List (Nat×Value)} {L:List a0E} {d:Option Tmp} {ty:TypeId} {pos:String} {af:Array Edge} {g:Option (Nat×Bool)}
end
end
end Go.Sl

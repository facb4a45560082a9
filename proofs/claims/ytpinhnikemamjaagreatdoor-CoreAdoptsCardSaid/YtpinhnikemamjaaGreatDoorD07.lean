/- Part of the proof; no statement of its own. -/
import Derived.Test.YtpinhnikemamjaaGreatDoorD06
import Derived.Test.YtpinhnikemamjaaGreatDoorD04
import Derived.Laws.Cells
import Derived.Test.YtpinhnikemamjaaGreatDoorD05
import Derived.Lib.UnsafeStr
import Derived.DeepKeys4
set_option linter.all false
set_option maxRecDepth 4000
set_option maxHeartbeats 4000000
namespace Go.Sl
open Go.BigFrame
section
def w0D (e:TypeId) (size:Nat) (v:Value) (n:Nat) (xs:List Value):a0E:=fun l=>
 xs.length=n*size∧((v= .slice none 0 0∧n=0∧l= [])∨
  ∃(g o cap:Nat) (cur:List Value),v= .slice (some ⟨g,o,none⟩) n cap∧n≤cap∧cap≤maxLen∧o+cap*size≤cur.length∧(cur.drop o).take (n*size)=xs∧l= [(g,.cells cur.toArray e (0,0))])
theorem s1Y (e:TypeId) (size:Nat) {w:World} {L:List a0E} (h:Sat w L):Sat w (w0D e size (.slice none 0 0) 0 []::L):=by
 obtain⟨l,a,b,c⟩:=h;exact⟨l,⟨[],l,rfl,⟨by simp,.inl ⟨rfl,rfl,rfl⟩⟩,a⟩,b,c⟩
theorem w0K {e:TypeId} {size:Nat} {v:Value} {n:Nat} {xs:List Value} {w:World} {L:List a0E} (h:Sat w (w0D e size v n xs::L)):
 xs.length=n*size∧((v= .slice none 0 0∧n=0∧Sat w L)∨
  ∃(g o cap:Nat) (cur:List Value),v= .slice (some ⟨g,o,none⟩) n cap∧n≤cap∧cap≤maxLen∧o+cap*size≤cur.length∧(cur.drop o).take (n*size)=xs∧Sat w (pts g (.cells cur.toArray e (0,0))::L)):=by
 obtain⟨l,⟨q,d,rfl,⟨p,m⟩,a⟩,c,b⟩:=h;refine⟨p,?_⟩;rcases m with ⟨rfl,rfl,rfl⟩| ⟨g,o,cap,cur,rfl,f,i,j,k,rfl⟩
 ·exact .inl ⟨rfl,rfl,d,a,c,b⟩
 ·exact .inr ⟨g,o,cap,cur,rfl,f,i,j,k,_,⟨_,d,rfl,rfl,a⟩,c,b⟩
theorem g1M {e:TypeId} {size:Nat} {n g o cap:Nat} {cur xs:List Value} {w:World} {L:List a0E} (h:Sat w (pts g (.cells cur.toArray e (0,0))::L)) (a:n≤cap) (c:cap≤maxLen) (d:o+cap*size≤cur.length)
 (b:(cur.drop o).take (n*size)=xs):Sat w (w0D e size (.slice (some ⟨g,o,none⟩) n cap) n xs::L):=by
 obtain⟨l,⟨p,q,rfl,f,i⟩,k,j⟩:=h;have m:n*size≤cap*size:=Nat.mul_le_mul_right _ a;exact⟨_,⟨p,q,rfl,⟨by rw[←b];simp;omega,.inr ⟨g,o,cap,cur,rfl,a,c,d,b,f⟩⟩,i⟩,k,j⟩
theorem o2D {e:TypeId} {size:Nat} {v:Value} {n:Nat} {xs:List Value} {w:World} {L:List a0E} (h:Sat w (w0D e size v n xs::L)):v.oneCell'=true:=by
 obtain⟨_,a⟩:=w0K h;rcases a with ⟨rfl,_⟩| ⟨g,o,cap,cur,rfl,_⟩<;>rfl
section
variable {c:Cx} {ops:Array Oper} {Q:Exit→Act→World→Prop} {rest:List Oper} {env:List (Nat×Value)} {L M:List a0E}
 {d:Tmp} {ty:TypeId} {pos:String} {af:Array Edge} {y:Code}
theorem d2X {s x:Operand} {t Y e size q n m:Nat} {v y z:Value} {xs news:List Value} (ht:c0X c.P t e size=true) (A:r0K c.P e q=true)
 (hz:h0D c.P e=some z) (hzs:z.cells.size=size) (hs:evo env s=some v) (hx:evo env x=some y)
 (hL:Fnd L (w0D e size v n xs) M) (H: ∀a w,b0J c env L a w→Src c.P size Y y m news w) (I:n+m≤maxLen) (hb:(n+m)*q≤140737488355328)
 (h: ∀E,E.oneCell'=true→OW c ops Q rest ((d,E)::env) (w0D e size E (n+m) (xs++news)::M)) (hd:Nat.blt d c.n=true:=by rfl):
 OW c ops Q (⟨some d,.call {callee:= .builtin .append,args:= #[s,x],argTypes:= #[t,Y]},ty,pos,af,none⟩::rest) env L:=by
 intro a w B;simp only[c0X,Bool.and_eq_true]at ht;obtain⟨C,D⟩:=ht;split at C
 case h_2=>cases C
 rename_i j hu;simp only[beq_iff_eq]at C;subst C;unfold r0K at A;split at D
 case h_2=>cases D
 rename_i i hi;unfold h0D at hz;rw[hi]at A hz;simp only[beq_iff_eq]at D A;subst D;subst A;have f:=H a w B;have hsrD:=H a w.drew B.drew;have W:=hL.sat B.sat;obtain⟨G,J⟩:=w0K W;refine wpList_plain rfl fun K hK=> ?_;have N: ∃E Z,(Builtin.append_ #[t,Y] ty #[v,y]).run c.P w= .ok E Z∧Sat Z (w0D j i.size E (n+m) (xs++news)::M)∧d0S w Z:=by
  have O:news.length=m*i.size:=f.newsLen;have l:(xs++news).length=(n+m)*i.size:=by rw[List.length_append,G,O,Nat.add_mul]
  have k: ∀(old:Nat),old<n+m→Sat w M→
   Sat (w.drew.alloc (.cells ((xs++news).toArray++Builtin.zeroCells z.cells (grownCap w (n+m) old j- (n+m))) j)) (w0D j i.size (.slice (some ⟨w.heap.size,0,none⟩) (n+m) (grownCap w (n+m) old j)) (n+m) (xs++news)::M):=by
   intro old ho u;have hge:=grownCap_ge w (n+m) old j;have h1:=(u.drew).alloc (.cells ((xs++news).toArray++Builtin.zeroCells z.cells (grownCap w (n+m) old j- (n+m))) j);have S:((xs++news).toArray++Builtin.zeroCells z.cells (grownCap w (n+m) old j- (n+m)))=((xs++news)++(Builtin.zeroCells z.cells (grownCap w (n+m) old j- (n+m))).toList).toArray:=by
    apply Array.ext';simp
   rw[S]at h1 ⊢;refine g1M h1 hge (grownCap_le_maxLen w (n+m) old j I) ?_ ?_
   ·rw[List.length_append,l,Array.length_toList,size_zeroCells,hzs,Nat.zero_add,←Nat.add_mul];exact Nat.mul_le_mul_right _ (by omega)
   ·rw[List.drop_zero,←l];exact List.take_left
  rcases J with ⟨rfl,rfl,u⟩| ⟨g,o,cap,cur,rfl,hnc,hcm,hcl,r,u⟩
  ·have hxs:xs= []:=List.eq_nil_of_length_eq_zero (by simpa using G);subst hxs;by_cases hm:m=0
   ·subst hm;have hn0:news= []:=List.eq_nil_of_length_eq_zero (by simpa using O);subst hn0;refine⟨.slice none 0 0,w,?_,s1Y _ _ u,d0S.refl w⟩;rcases f.kind with ⟨e2,T⟩|T<;>
     simp[Builtin.append_,run_underlying hu,run_underlying T,sizeOf,typeInfo,hi,f.len,f.cells]
   ·have R:=run_append_grow_src (P:=c.P) (w:=w) t Y ty j i z hu hi hz none 0 0 [] (by simp[Builtin.firstCells]) y m news f (by omega) (by simp only[maxLen]at I;omega) (growslice_fits (by omega) hb);simp only[Nat.zero_add,List.nil_append]at R k ⊢;exact⟨_,_,R,k 0 (by omega) u,(d0S.refl w).drew.alloc _⟩
  ·have hnc':n*i.size≤cap*i.size:=Nat.mul_le_mul_right _ hnc;by_cases p:n+m≤cap
   ·have hroom':n*i.size+m*i.size≤cap*i.size:=by rw[←Nat.add_mul];exact Nat.mul_le_mul_right _ p
    have F:o+n*i.size+0+news.length≤cur.toArray.size:=by
     rw[List.size_toArray,O];omega
    have X:=n0T (P:=c.P) news (o+n*i.size) 0 cur.toArray w u.pts F f.one;simp only[Nat.add_zero]at X;refine⟨.slice (some ⟨g,o,none⟩) (n+m) cap,_,?_,?_,(d0S.refl w).put g (.cells (cur.toArray.extract 0 (o+n*i.size)++news.toArray++cur.toArray.extract (o+n*i.size+news.length) cur.toArray.size) j (0,0))⟩
    ·rcases f.kind with ⟨e2,T⟩|T<;>
      simp[Builtin.append_,run_underlying hu,run_underlying T,sizeOf,typeInfo,hi,f.len,f.cells,p,j0C,X]
    ·have hcl':o+n*i.size+news.length≤cur.length:=by simpa using F
     have S:(cur.toArray.extract 0 (o+n*i.size)++news.toArray++cur.toArray.extract (o+n*i.size+news.length) cur.toArray.size)=(cur.take (o+n*i.size)++news++cur.drop (o+n*i.size+news.length)).toArray:=by
      apply Array.ext';simp;rw[List.take_of_length_le (by simp)]
     rw[S];refine g1M u.put p hcm ?_ ?_
     ·simp only[List.length_append,List.length_take,List.length_drop];omega
     ·have e1:cur.take (o+n*i.size)=cur.take o++xs:=by rw[List.take_add,r]
      have hto:(cur.take o).length=o:=by simp;omega
      rw[e1,List.append_assoc,List.append_assoc,List.drop_left' hto,←List.append_assoc,←l];exact List.take_left
   ·have U:(Builtin.firstCells i.size n (.slice (some ⟨g,o,none⟩) n cap)).run c.P w.drew= .ok xs.toArray w.drew:=by
     have h1:=g0U (P:=c.P) (w:=w.drew) (b:=g) (o:=o) (n:=n*i.size) (cs:=cur.toArray) (e:=j) (fr:=(0,0)) u.drew.pts (by
      rw[List.size_toArray];omega)
     have S:cur.toArray.extract o (o+n*i.size)=xs.toArray:=by
      apply Array.ext';rw[Array.toList_extract,List.extract_eq_take_drop,show o+n*i.size-o=n*i.size by omega];exact r
     simp only[Builtin.firstCells];rw[h1,S]
    have R:=run_append_grow_src (P:=c.P) (w:=w) t Y ty j i z hu hi hz (some ⟨g,o,none⟩) n cap xs U y m news f (by omega) (by simp only[maxLen]at I;omega) (growslice_fits (by omega) hb);exact⟨_,_,R,k cap (by omega) u.tail,(d0S.refl w).drew.alloc _⟩
 obtain⟨E,Z,R,V,hl⟩:=N;unfold Oper.wp;rw[execOp_builtin,builtin_append];have e1:(#[s,x]:Array Operand).map a.eval= #[v,y]:=by simp[B.eval hs,B.eval hx]
 rw[e1];simp only[Sem.run_bind,R,Result.andThen_ok,Sem.run_pure,Oper.upon];exact hK _ _ (h E (o2D V) _ _ ((⟨B.size,B.slots,B.defers,V,B.like.trans hl⟩:b0J c env _ a Z).put d E hd))
theorem l1C {t e n:TypeId} {x:Operand} {dd:Option Tmp} {g:Option (Nat×Bool)} {i size k:Nat} {v:Value} {xs:List Value} (f:c0X c.P t e n=true) (h:evo env x=some v) (hL:Fnd L (w0D i size v k xs) M):
 a0P c ⟨dd,.call {callee:= .builtin .len,args:= #[x],argTypes:= #[t]},ty,pos,af,g⟩ env L (.int .i64 k):=by
 intro a w d;obtain⟨_,b⟩:=w0K (hL.sat d.sat);rcases b with ⟨rfl,rfl,_⟩| ⟨g,o,cap,cur,rfl,_⟩
 ·exact r0Z f h a w d
 ·exact r0Z f h a w d
theorem t2K {e:TypeId} {size:Nat} {v:Value} {n:Nat} {xs:List Value} (hL:Fnd L (w0D e size v n xs) M) (r:0<n)
 (h: ∀(g o cap:Nat) (cur:List Value),v= .slice (some ⟨g,o,none⟩) n cap→n≤cap→cap≤maxLen→o+cap*size≤cur.length→(cur.drop o).take (n*size)=xs→CW c y Q env (pts g (.cells cur.toArray e (0,0))::M)):CW c y Q env L:=fun a w b=>by
 obtain⟨q,k⟩:=w0K (hL.sat b.sat);rcases k with ⟨_,p,_⟩| ⟨g,o,cap,cur,m,d,f,i,j,l⟩
 ·omega
 ·exact h g o cap cur m d f i j a w ⟨b.size,b.slots,b.defers,l,b.like⟩
end
theorem o2E {e:TypeId} {n g o cap k:Nat} {cur xs:List Value} {w:World} {L:List a0E} (h:Sat w (pts g (.cells cur.toArray e (0,0))::L)) (c:n≤cap) (d:cap≤maxLen) (f:o+cap*1≤cur.length)
 (b:(cur.drop o).take (n*1)=xs) (i:k≤n):Sat w (w0D e 1 (.slice (b1L (some ⟨g,o,none⟩) k cap 1) (n-k) (cap-k)) (n-k) (xs.drop k)::L):=by
 unfold b1L;have a:xs.length≤n:=by rw[←b];simp;omega
 by_cases e0:cap=k
 ·subst e0;obtain rfl:n=cap:=by omega
  rw[if_pos rfl];refine g1M (size:=1) (o:=o) (cap:=n-n) (n:=n-n) h (by omega) (by omega) (by omega) ?_;rw[List.drop_eq_nil_of_le a,Nat.sub_self];simp
 ·rw[if_neg e0];simp only[Option.map_some,j0C,Nat.mul_one];refine g1M (size:=1) (o:=o+k) (cap:=cap-k) (n:=n-k) h (by omega) (by omega) (by omega) ?_;rw[←b,List.drop_take,List.drop_drop,Nat.mul_one,Nat.mul_one]
end
end Go.Sl
namespace Go.Sl
section
section
variable {c:Cx} {env:List (Nat×Value)} {L M:List a0E} {dd:Option Tmp} {ty:TypeId} {pos:String} {af:Array Edge} {g:Option (Nat×Bool)} {Q:Exit→Act→World→Prop} {y:Code}
theorem a2V {cur:List Value} {q n:Nat} {vs:List Value} (h:(cur.drop q).take n=vs) (c:vs.length=n):q+n≤cur.length∧cur.toArray.extract q (q+n)=vs.toArray∨n=0:=by
 by_cases a:n=0
 ·exact .inr a
 ·left;have b:=congrArg List.length h;rw[List.length_take,List.length_drop,c]at b;refine⟨by omega,?_⟩;rw[←h];apply Array.ext';rw[Array.toList_extract,List.extract_eq_drop_take,Nat.add_sub_cancel_left]
theorem x0T {x:Operand} {t:TypeId} {b o cap n k size:Nat} {e:TypeId} {xs vs:List Value} (C:o0N c.P t k=true) (D:evo env x=some (.pointer (some ⟨b,o,none⟩)))
 (hL:Fnd L (b0I e size (.slice (some ⟨b,0,none⟩) n cap) n xs) M) (r:(xs.drop o).take k=vs) (q:vs.length=k) (m:0<k):a0P c ⟨dd,.load t x,ty,pos,af,g⟩ env L (.agg vs.toArray):=by
 intro a w i;obtain⟨G,z⟩:=f0O (hL.sat i.sat);rcases z with ⟨m,_⟩| ⟨E,l,cur,f,s,F,u,v,B⟩
 ·cases m
 ·simp only[Value.slice.injEq,Option.some.injEq,Addr.mk.injEq]at f;obtain⟨⟨rfl,_,_⟩,_,rfl⟩:=f;have j:=congrArg List.length r;rw[List.length_take,List.length_drop,q]at j;have A:(n*size)≤cur.length:=by rw[u];exact Nat.mul_le_mul_right _ s
  have h:(cur.drop o).take k=vs:=by
   rw[←r,←v,List.drop_take,List.take_take,Nat.min_eq_left (by omega)]
  rcases a2V h q with ⟨p,y⟩|p
  ·exact a0K (c:=c) (L:=pts b (.cells cur.toArray e (0,0))::M) (M:=M) (d:=dd) (g:=g) (ty:=ty) (pos:=pos) (af:=af) (hL:=⟨Fnd.here⟩) C D (by simpa using p) y a w ⟨i.size,i.slots,i.defers,B,i.like⟩
  ·omega
theorem b1R {e:TypeId} {b n:Nat} {cs:List Value} {w:World} {L:List a0E} (c:cs.length=n) (a:n≤maxLen) (h:Sat w (pts b (.cells cs.toArray e (0,0))::L)):
 Sat w (b0I e 1 (.slice (some ⟨b,0,none⟩) n n) n cs::L):=
 r0J h (Nat.le_refl _) a (by simpa using c) (by rw[List.take_of_length_le];simp;omega)
theorem o0K (size:Nat) {e:TypeId} {b:Nat} {w:World} {L:List a0E} (h:Sat w (pts b (.cells (#[]:Array Value) e (0,0))::L)):
 Sat w (b0I e size (.slice (some ⟨b,0,none⟩) 0 0) 0 []::L):=
 r0J (cur:= []) h (Nat.le_refl _) (by simp[maxLen]) (by simp) (by simp)
def c0B (H:b0B):a0E:=fun l=>l=H
theorem i1X {w:World} {H:b0B} {b:Nat} {o:Obj} (h:Sat w (c0B H::L)) (c:(b,o)∈H):w.heap[b]? =some o:=by
 obtain⟨l,⟨f,g,rfl,rfl,d⟩,e,a⟩:=h;exact a b o (List.mem_append_left _ c)
theorem o2F {w:World} {H:b0B} {b:Nat} {o:Obj} (h:Sat w (pts b o::c0B H::L)):Sat w (c0B ((b,o)::H)::L):=by
 obtain⟨l,⟨g,i,rfl,rfl,a,c,rfl,rfl,d⟩,f,e⟩:=h;exact⟨(b,o)::a++c,⟨(b,o)::a,c,rfl,rfl,d⟩,by simpa using f,by simpa using e⟩
theorem o2G {w:World} (h:Sat w L):Sat w (c0B []::L):=by
 obtain⟨l,a,b,c⟩:=h;exact⟨l,⟨[],l,rfl,rfl,a⟩,b,c⟩
def i0V (H:b0B) (e:TypeId) (size:Nat) (v:Value) (n:Nat) (xs:List Value):Prop:=
 xs.length=n*size∧((v= .slice none 0 0∧n=0)∨ ∃(b o cap:Nat) (cur:List Value),v= .slice (some ⟨b,o,none⟩) n cap∧n≤cap∧(b,.cells cur.toArray e (0,0))∈H∧(cur.drop o).take (n*size)=xs)
theorem i0V.more {H a:b0B} {e:TypeId} {size n:Nat} {v:Value} {xs:List Value} (h:i0V H e size v n xs) (f: ∀p∈H,p∈a):i0V a e size v n xs:=by
 obtain⟨c,d⟩:=h;refine⟨c,d.imp id ?_⟩;rintro⟨b,o,cap,cur,a1,a2,a3,a4⟩;exact⟨b,o,cap,cur,a1,a2,f _ a3,a4⟩
theorem i0V.one {H:b0B} {e:TypeId} {size n:Nat} {v:Value} {xs:List Value} (h:i0V H e size v n xs):v.oneCell'=true:=by
 obtain⟨_,⟨rfl,_⟩| ⟨b,o,cap,cur,rfl,_⟩⟩:=h<;>rfl
theorem l1D (H:b0B) (e:TypeId) (size:Nat):i0V H e size (.slice none 0 0) 0 []:=⟨by simp,.inl ⟨rfl,rfl⟩⟩
theorem d0W {H:b0B} {e:TypeId} {size n:Nat} {v:Value} {xs:List Value} (h:i0V H e size v n xs): ∃p cap,v= .slice p n cap∧n≤cap:=by
 obtain⟨_,⟨rfl,rfl⟩| ⟨b,o,cap,cur,rfl,a,_⟩⟩:=h
 ·exact⟨none,0,rfl,Nat.le_refl _⟩
 ·exact⟨_,cap,rfl,a⟩
theorem g0V {H:b0B} {e:TypeId} {size n:Nat} {v:Value} {xs:List Value} (h:i0V H e size v n xs) (i:0<n): ∃(b o cap:Nat) (cur:List Value),v= .slice (some ⟨b,o,none⟩) n cap∧n≤cap∧(b,.cells cur.toArray e (0,0))∈H∧(cur.drop o).take (n*size)=xs∧xs.length=n*size:=by
 obtain⟨g,⟨_,rfl⟩| ⟨b,o,cap,cur,a,c,d,f⟩⟩:=h
 ·omega
 ·exact⟨b,o,cap,cur,a,c,d,f,g⟩
theorem o2H {w:World} {H:b0B} {e:TypeId} {size n:Nat} {v:Value} {xs:List Value} (h:Sat w (b0I e size v n xs::c0B H::L)): ∃a,(∀p∈H,p∈a)∧i0V a e size v n xs∧Sat w (c0B a::L):=by
 obtain⟨d,i⟩:=f0O h;rcases i with ⟨rfl,rfl,c⟩| ⟨b,cap,cur,rfl,f,j,k,g,c⟩
 ·exact⟨H,fun _ h=>h,⟨d,.inl ⟨rfl,rfl⟩⟩,c⟩
 ·exact⟨(b,.cells cur.toArray e (0,0))::H,fun _ h=>List.mem_cons_of_mem _ h,⟨d,.inr ⟨b,0,cap,cur,rfl,f,List.mem_cons_self,by simpa using g⟩⟩,o2F c⟩
theorem a1L {x:Operand} {t:TypeId} {b q:Nat} {H:b0B} {cur:List Value} {e:TypeId} {v:Value} (i:f0Q c.P t=true) (j:evo env x=some (.pointer (some ⟨b,q,none⟩))) (hL:Fnd L (c0B H) M) (f:(b,.cells cur.toArray e (0,0))∈H) (a:nth cur q=some v):
 a0P c ⟨dd,.load t x,ty,pos,af,g⟩ env L v:=
 w0Z i j hL fun w L' h=>by
  have d:=i1X h f;rw[e0F]at a;simp[World.cell?,d,a]
theorem f0A {x:Operand} {t:TypeId} {b q k:Nat} {H:b0B} {cur vs:List Value} {e:TypeId} (h:o0N c.P t k=true) (o:evo env x=some (.pointer (some ⟨b,q,none⟩))) (hL:Fnd L (c0B H) M) (m:(b,.cells cur.toArray e (0,0))∈H)
 (n:(cur.drop q).take k=vs) (l:vs.length=k) (p:0<k):a0P c ⟨dd,.load t x,ty,pos,af,g⟩ env L (.agg vs.toArray):=by
 intro a w f;have i:=i1X (hL.sat f.sat) m;rcases a2V n l with ⟨d,j⟩|d
 ·simp[execOp,f.eval o,Instr.loadAt,Instr.sureAddr,loadVar,j0A h,j0H h,g0U i (show q+k≤cur.toArray.size by simpa using d),j]
 ·omega
theorem i0I {size n o i:Nat} {cur xs:List Value} (h:(cur.drop o).take (n*size)=xs) (hi:i<n):(cur.drop (o+i*size)).take size=(xs.drop (i*size)).take size:=by
 have:i*size+size≤n*size:=by rw[←Nat.succ_mul];exact Nat.mul_le_mul_right _ hi
 rw[←h,List.drop_take,List.take_take,List.drop_drop,Nat.min_eq_left (by omega)]
theorem i0J {α:Type} {f:α→List Value} {size:Nat} (a: ∀x,(f x).length=size): ∀l:List α,(l.flatMap f).length=l.length*size
 | []=>by simp
 |x::l=>by rw[List.flatMap_cons,List.length_append,a,i0J a l,List.length_cons,Nat.succ_mul];omega
theorem p0J {α:Type} {f:α→List Value} {size:Nat} (a: ∀x,(f x).length=size): ∀(l:List α) {i:Nat} (hi:i<l.length),((l.flatMap f).drop (i*size)).take size=f l[i]
 | [],i,hi=>by simp at hi
 |x::l,0,hi=>by
  rw[Nat.zero_mul,List.drop_zero,List.flatMap_cons,List.take_left' (a x)];rfl
 |x::l,i+1,hi=>by
  rw[List.flatMap_cons,show(i+1)*size=(f x).length+i*size by rw[a,Nat.succ_mul];omega,List.drop_length_add_append];exact p0J a l (by simpa using hi)
theorem b1S {q r s' size n cap:Nat} {p:Option Addr} {H:b0B} {xs:List Value} {e:TypeId} (m:c0X c.P q r s'=true) (h:i0V H e size (.slice p n cap) n xs) (hL:Fnd L (c0B H) M) (t: ∀u∈xs,u.oneCell'=true):
 ∀a w,b0J c env L a w→Src c.P size q (.slice p n cap) n xs w:=by
 intro a w A;simp only[c0X,Bool.and_eq_true]at m;obtain⟨d,_⟩:=m;split at d
 case h_2=>cases d
 rename_i B hu;obtain⟨f,v⟩:=h;rcases v with ⟨g,x⟩| ⟨b,o,l,cur,g,x,y,z⟩
 ·cases g
  rw[Nat.zero_mul]at f;rw[List.eq_nil_of_length_eq_zero f];exact Src.ofNil w hu 0
 ·cases g
  refine Src.ofSlice w hu _ _ _ _ f (fun j u i=> ?_) t;have hb:=i1X (hL.sat A.sat) y;have k:j<n*size:=by rw[←f];exact(List.getElem?_eq_some_iff.1 i).1
  rw[←z,List.getElem?_take_of_lt k,List.getElem?_drop]at i;simp[World.cell?,j0C,hb,i]
theorem t0J {e:TypeId} {size n:Nat} {v:Value} {xs:List Value} {H:b0B} {f:List a0E} (hL:Fnd L (b0I e size v n xs) M) (l:Fnd M (c0B H) f) (h: ∀b,(∀p∈H,p∈b)→i0V b e size v n xs→CW c y Q env (c0B b::f)):CW c y Q env L:=fun a w d=>by
 have g:Sat w (b0I e size v n xs::c0B H::f):=(hL.sat d.sat).perm (List.Perm.cons _ l);obtain⟨b,i,j,k⟩:=o2H g;exact h b i j a w ⟨d.size,d.slots,d.defers,k,d.like⟩
theorem y1G {cur vs:List Value} {o:Nat} (a:o≤cur.length):j0I cur.toArray o vs.toArray=(cur.take o++vs++cur.drop (o+vs.length)).toArray:=by
 unfold j0I;apply Array.ext';simp only[Array.toList_append,Array.toList_extract,List.extract_eq_take_drop,List.drop_zero,Nat.sub_zero,List.size_toArray];rw[List.take_of_length_le (l:=List.drop (o+vs.length) _) (by rw[List.length_drop];exact Nat.le_refl _)]
theorem p1O {α:Type} {f:α→List Value} {size:Nat} (a: ∀x,(f x).length=size) (z:α): ∀ {l:List α} {i:Nat} (_:i<l.length),(l.flatMap f).take (i*size)++f z++(l.flatMap f).drop (i*size+size)=(l.set i z).flatMap f
 |x::l,0,_=>by
  rw[Nat.zero_mul,List.take_zero,List.nil_append,Nat.zero_add,List.set_cons_zero,List.flatMap_cons,List.flatMap_cons,List.drop_left' (a x)]
 |x::l,i+1,h=>by
  have b:=p1O a z (l:=l) (i:=i) (by simpa using h);rw[List.set_cons_succ,List.flatMap_cons,List.flatMap_cons,←b];rw[show(i+1)*size=(f x).length+i*size by rw[a,Nat.succ_mul];omega,List.take_length_add_append,Nat.add_assoc,List.drop_length_add_append];simp only[List.append_assoc]
variable {ops:Array Oper} {rest:List Oper}
theorem n1X {t:TypeId} {x y:Operand} {b o n k cap size:Nat} {e:TypeId} {xs xs' vs:List Value}
 (C:x0O c.P t (k)=true) (D:evo env x=some (.pointer (some ⟨b,o,none⟩))) (F:evo env y=some (.agg vs.toArray)) (i:vs.length=k) (z: ∀u∈vs,u.oneCell'=true)
 (hL:Fnd L (b0I e size (.slice (some ⟨b,0,none⟩) n cap) n xs) M) (I:o+k≤xs.length) (A:xs.take o++vs++xs.drop (o+k)=xs')
 (h:OW c ops Q rest env (b0I e size (.slice (some ⟨b,0,none⟩) n cap) n xs'::M)):OW c ops Q (⟨none,.store t x y,ty,pos,af,none⟩::rest) env L:=by
 intro a w d;obtain⟨H,f⟩:=f0O (hL.sat d.sat);rcases f with ⟨g,_⟩| ⟨G,l,cur,g,r,s,v,m,B⟩
 ·cases g
 ·simp only[Value.slice.injEq,Option.some.injEq,Addr.mk.injEq]at g;obtain⟨⟨rfl,_,_⟩,_,rfl⟩:=g;have E:xs.length≤cur.length:=by rw[←m,List.length_take];exact Nat.min_le_right _ _
  refine a0M (c:=c) (L:=pts b (.cells cur.toArray e (0,0))::M) (M:=M) (cs':=(cur.take o++vs++cur.drop (o+k)).toArray) (hL:=⟨Fnd.here⟩) C D F (by simpa using i) (by simpa using z) (by simp;omega) (by rw[y1G (by omega),i]) (fun a w d=> ?_) a w ⟨d.size,d.slots,d.defers,B,d.like⟩;refine h a w ⟨d.size,d.slots,d.defers,r0J d.sat r s ?_ ?_,d.like⟩
  ·rw[←v,List.length_append,List.length_append,List.length_take,List.length_drop,i];omega
  ·rw[←A,←m];have p:(List.take (n*size) cur).take o=cur.take o:=by rw[List.take_take,Nat.min_eq_left (by omega)]
   have q:(cur.take o++vs++cur.drop (o+k)).take (n*size)=cur.take o++vs++(cur.drop (o+k)).take (n*size- (o+k)):=by
    have j:(cur.take o++vs).length=o+k:=by rw[List.length_append,List.length_take,i];omega
    rw[List.take_append,j,List.take_of_length_le (by omega)]
   rw[p,q,List.drop_take]
end
end
section
section
variable {c:Cx} {env:List (Nat×Value)} {L M:List a0E} {d:Option Tmp} {ty:TypeId} {pos:String} {af:Array Edge} {g:Option (Nat×Bool)}
theorem l1E {x:Operand} {t:TypeId} {k:Nat} {W:World} {p:Addr} {vs:List Value} (f:o0N c.P t k=true) (m:evo env x=some (.pointer (some p))) (hL:Fnd L (whole W) M) (i:vs.length=k) (h: ∀q u,vs[q]? =some u→W.cell? (p.add q)=some u):
 a0P c ⟨d,.load t x,ty,pos,af,g⟩ env L (.agg vs.toArray):=by
 intro a w b;have l: ∀q u,vs[q]? =some u→w.cell? (p.add q)=some u:=fun q u j=>d2Q (hL.sat b.sat) (h q u j);have e:=run_loadCells_list (P:=c.P) (w:=w) p vs l;rw[i]at e;simp[execOp,b.eval m,Instr.loadAt,Instr.sureAddr,loadVar,j0A f,j0H f,e]
theorem d2Y {x y:Operand} {t yt:TypeId} {p q:Bool} (b:(match c.P.underlying t with|some .bool=>true|_=>false)=true) (i:evo env x=some (.bool p)) (j:evo env y=some (.bool q)):
 a0P c ⟨d,.binOp .neq t x y yt,ty,pos,af,g⟩ env L (.bool (p !=q)):=by
 intro a w h;split at b
 ·rename_i hu;have e:(binOp .neq t (.bool p) (.bool q)).run c.P w= .ok (.bool (p !=q)) w:=by
   have f:binOp .neq t (.bool p) (.bool q)=(do pure (.bool (!(←Op.equalIn (9999+1) t (.bool p) (.bool q))))):=rfl;rw[f];rw[Sem.run_bind,run_equalIn_bool hu];rfl
  simp[execOp,h.eval i,h.eval j,eqGuard_at_bool,e]
 ·cases b
end
end
section
def w32 (x:BitVec 32):Value:= .int .u32 (x.toNat:Int)
theorem p1P (a b:BitVec 32):bits .xor .u32 (a.toNat:Int) (b.toNat:Int)=((a ^^^ b).toNat:Int):=by
 simp only[bits,BitVec.ofInt_natCast,BitVec.ofNat_toNat,BitVec.setWidth_eq,IntKind.bits];rw[IntKind.wrap_u32];exact Int.emod_eq_of_lt (Int.natCast_nonneg _) (by have:=(a ^^^ b).isLt;omega)
theorem i2U (a b:BitVec 32):bits .and .u32 (a.toNat:Int) (b.toNat:Int)=((a &&& b).toNat:Int):=by
 simp only[bits,BitVec.ofInt_natCast,BitVec.ofNat_toNat,BitVec.setWidth_eq,IntKind.bits];rw[IntKind.wrap_u32];exact Int.emod_eq_of_lt (Int.natCast_nonneg _) (by have:=(a &&& b).isLt;omega)
theorem o2I (a b:BitVec 32):bits .or .u32 (a.toNat:Int) (b.toNat:Int)=((a ||| b).toNat:Int):=by
 simp only[bits,BitVec.ofInt_natCast,BitVec.ofNat_toNat,BitVec.setWidth_eq,IntKind.bits];rw[IntKind.wrap_u32];exact Int.emod_eq_of_lt (Int.natCast_nonneg _) (by have:=(a ||| b).isLt;omega)
section
variable {c:Cx} {env:List (Nat×Value)} {L:List a0E} {d:Option Tmp} {ty:TypeId} {pos:String} {af:Array Edge} {g:Option (Nat×Bool)} {x y:Operand} {t yt:TypeId} {X Y:BitVec 32}
theorem q0Q (a:evo env x=some (w32 X)) (b:evo env y=some (w32 Y)):a0P c ⟨d,.binOp .xor t x y yt,ty,pos,af,g⟩ env L (w32 (X ^^^ Y)):=by
 unfold w32;rw[←p1P];exact w0I a b
theorem e1E (a:evo env x=some (w32 X)) (b:evo env y=some (w32 Y)):a0P c ⟨d,.binOp .and t x y yt,ty,pos,af,g⟩ env L (w32 (X &&& Y)):=by
 unfold w32;rw[←i2U];exact o0O a b
theorem s1C (a:evo env x=some (w32 X)) (b:evo env y=some (w32 Y)):a0P c ⟨d,.binOp .or t x y yt,ty,pos,af,g⟩ env L (w32 (X ||| Y)):=by
 unfold w32;rw[←o2I];exact n2N a b
theorem q0R (a:evo env x=some (w32 X)) (b:evo env y=some (w32 Y)):a0P c ⟨d,.binOp .add t x y yt,ty,pos,af,g⟩ env L (w32 (X+Y)):=by
 have e:((X+Y).toNat:Int)=IntKind.u32.wrap ((X.toNat:Int)+(Y.toNat:Int)):=by rw[IntKind.wrap_u32,BitVec.toNat_add];omega
 unfold w32;rw[e];exact g1D a b
theorem x2I (a:evo env x=some (w32 X)):a0P c ⟨d,.unOp .xor t x,ty,pos,af,g⟩ env L (w32 (~~~ X)):=by
 have h:(if IntKind.u32.signed then -1 else IntKind.u32.max)=((BitVec.allOnes 32).toNat:Int):=by decide
 have e:(~~~ X)=BitVec.allOnes 32 ^^^ X:=by rw[BitVec.xor_comm];exact BitVec.xor_allOnes.symm
 have:=d2K (c:=c) (env:=env) (L:=L) (d:=d) (t:=t) (ty:=ty) (pos:=pos) (af:=af) (g:=g) (x:=x) (k:= .u32) a;rw[h,p1P,←e]at this;exact this
theorem l1F {j:IntKind} {n:Nat} (a:evo env x=some (w32 X)) (b:evo env y=some (.int j (n:Int))) (f:n≤32):a0P c ⟨d,.binOp .shr t x y yt,ty,pos,af,g⟩ env L (w32 (X >>> n)):=by
 have e:((X >>> n).toNat:Int)=(X.toNat:Int)/2^((n:Int)).toNat:=by
  rw[BitVec.toNat_ushiftRight,Nat.shiftRight_eq_div_pow,Int.toNat_natCast];norm_cast
 unfold w32;rw[e];exact t0B a b ⟨by omega,by simp only[IntKind.bits];omega⟩
theorem l1G {j:IntKind} {n:Nat} (a:evo env x=some (w32 X)) (b:evo env y=some (.int j (n:Int))) (f:n≤32):a0P c ⟨d,.binOp .shl t x y yt,ty,pos,af,g⟩ env L (w32 (X <<< n)):=by
 have e:((X <<< n).toNat:Int)=IntKind.u32.wrap ((X.toNat:Int)*2^((n:Int)).toNat):=by
  rw[BitVec.toNat_shiftLeft,Nat.shiftLeft_eq,Int.toNat_natCast,IntKind.wrap_u32];have:((X.toNat:Int)*2^n)=((X.toNat*2^n:Nat):Int):=by norm_cast
  rw[this];omega
 unfold w32;rw[e];exact g1E a b ⟨by omega,by simp only[IntKind.bits];omega⟩
theorem g1N {a tt:TypeId} {b:UInt8} (f:(c.P.underlying a).isSome=true) (i:y0U c.P tt .u32=true) (j:evo env x=some (.int .u8 (b.toNat:Int))):a0P c ⟨d,.convert a tt x,ty,pos,af,g⟩ env L (w32 (b.toBitVec.setWidth 32)):=by
 have e:((b.toBitVec.setWidth 32).toNat:Int)=IntKind.u32.wrap (b.toNat:Int):=by
  rw[IntKind.wrap_u32,BitVec.toNat_setWidth];have h:=b.toNat_lt;have e:b.toBitVec.toNat=b.toNat:=rfl;rw[e];omega
 unfold w32;rw[e];exact k1R f i j
theorem d2Z {a tt:TypeId} (b:(c.P.underlying a).isSome=true) (f:y0U c.P tt .u8=true) (h:evo env x=some (w32 X)):a0P c ⟨d,.convert a tt x,ty,pos,af,g⟩ env L (.int .u8 (((⟨X.setWidth 8⟩:UInt8).toNat:Nat):Int)):=by
 have e:(((⟨X.setWidth 8⟩:UInt8).toNat:Nat):Int)=IntKind.u8.wrap (X.toNat:Int):=by
  have e:(⟨X.setWidth 8⟩:UInt8).toNat=(X.setWidth 8).toNat:=rfl;rw[e,IntKind.wrap_u8,BitVec.toNat_setWidth];omega
 rw[e];exact k1R b f h
end
theorem i2V (X:BitVec 32) (k:Nat) (h:k<32):X <<< (32-k) ||| X >>> k=X.rotateRight k:=by
 rw[BitVec.rotateRight_def,Nat.mod_eq_of_lt h,BitVec.or_comm]
theorem i2W {c:Cx} {env:List (Nat×Value)} {L M:List a0E} {dd:Option Tmp} {ty:TypeId} {pos:String} {af:Array Edge} {g:Option (Nat×Bool)} {x:Operand} {t:TypeId} {W:World} {gl n:Nat} {b:String} {cs:Array Value}
 (j:o0N c.P t n=true) (q:evo env x=some (.pointer (some ⟨gl,0,none⟩))) (hL:Fnd L (whole W) M) (m:c.P.globalNamed b=some gl) (d:W.var? c.P b=some cs) (p:cs.size=n):
 a0P c ⟨dd,.load t x,ty,pos,af,g⟩ env L (.agg cs):=by
 intro a w h;have l: ∃e fr,w.heap[gl]? =some (.cells cs e fr):=by
  unfold World.var? at d;rw[m]at d;simp only[Option.bind_some]at d;split at d
  ·rename_i cs' e fr f;cases d
   have i:gl<W.heap.size:=by
    rcases Nat.lt_or_ge gl W.heap.size with h|h
    ·exact h
    ·rw[Array.getElem?_eq_none h]at f;cases f
   exact⟨e,fr,by rw[(hL.sat h.sat).whole_block gl i];exact f⟩
  ·cases d
 obtain⟨e,fr,o⟩:=l;have k:(loadVar t ⟨gl,0,none⟩).run c.P w= .ok (.agg cs) w:=by
  simp only[loadVar,Sem.run_bind,j0A j,j0H j,Result.andThen_ok,if_true];rw[g0U o (by omega)];have:cs.extract 0 (0+n)=cs:=by apply Array.ext';simp[←p]
  rw[this];rfl
 simp[execOp,h.eval q,Instr.loadAt,Instr.sureAddr,k]
end
section
def i32 (x:BitVec 32):Value:= .int .i64 (x.toNat:Int)
theorem t2L (a b:Nat) (e:a<9223372036854775808) (hb:b<9223372036854775808):bits .and .i64 (a:Int) (b:Int)=((a &&& b:Nat):Int):=by
 have h:a &&& b<2^63:=Nat.lt_of_le_of_lt Nat.and_le_left (by simpa using e);have c:a%2^IntKind.i64.bits=a:=Nat.mod_eq_of_lt (by simp only[IntKind.bits];omega);have d:b%2^IntKind.i64.bits=b:=Nat.mod_eq_of_lt (by simp only[IntKind.bits];omega);simp only[bits,BitVec.ofInt_natCast,BitVec.toNat_and,BitVec.toNat_ofNat,c,d];exact e0P .i64 _ (Int.natCast_nonneg _) (Int.ofNat_lt.2 h)
theorem x2J (a b:Nat) (e:a<9223372036854775808) (hb:b<9223372036854775808):bits .or .i64 (a:Int) (b:Int)=((a ||| b:Nat):Int):=by
 have h:a ||| b<2^63:=Nat.or_lt_two_pow (by simpa using e) (by simpa using hb);have c:a%2^IntKind.i64.bits=a:=Nat.mod_eq_of_lt (by simp only[IntKind.bits];omega);have d:b%2^IntKind.i64.bits=b:=Nat.mod_eq_of_lt (by simp only[IntKind.bits];omega);simp only[bits,BitVec.ofInt_natCast,BitVec.toNat_or,BitVec.toNat_ofNat,c,d];exact e0P .i64 _ (Int.natCast_nonneg _) (Int.ofNat_lt.2 h)
theorem n1Y (x:BitVec 32):x.toNat<9223372036854775808:=by have:=x.isLt;omega
section
variable {c:Cx} {env:List (Nat×Value)} {L:List a0E} {d:Option Tmp} {ty:TypeId} {pos:String} {af:Array Edge} {g:Option (Nat×Bool)} {x y:Operand} {t yt:TypeId} {X Y:BitVec 32}
theorem v0P (a:evo env x=some (i32 X)) (b:evo env y=some (i32 Y)):a0P c ⟨d,.binOp .xor t x y yt,ty,pos,af,g⟩ env L (i32 (X ^^^ Y)):=by
 unfold i32;rw[BitVec.toNat_xor,←t2F _ _ (n1Y X) (n1Y Y)];exact w0I a b
theorem e1F (a:evo env x=some (i32 X)) (b:evo env y=some (i32 Y)):a0P c ⟨d,.binOp .and t x y yt,ty,pos,af,g⟩ env L (i32 (X &&& Y)):=by
 unfold i32;rw[BitVec.toNat_and,←t2L _ _ (n1Y X) (n1Y Y)];exact o0O a b
theorem e2A (a:evo env x=some (i32 X)) (b:evo env y=some (i32 Y)):a0P c ⟨d,.binOp .or t x y yt,ty,pos,af,g⟩ env L (i32 (X ||| Y)):=by
 unfold i32;rw[BitVec.toNat_or,←x2J _ _ (n1Y X) (n1Y Y)];exact n2N a b
theorem s1Z {j:IntKind} {n:Nat} (a:evo env x=some (i32 X)) (b:evo env y=some (.int j (n:Int))) (f:n≤32):a0P c ⟨d,.binOp .shr t x y yt,ty,pos,af,g⟩ env L (i32 (X >>> n)):=by
 have e:((X >>> n).toNat:Int)=(X.toNat:Int)/2^((n:Int)).toNat:=by
  rw[BitVec.toNat_ushiftRight,Nat.shiftRight_eq_div_pow,Int.toNat_natCast];norm_cast
 unfold i32;rw[e];exact t0B a b ⟨by omega,by simp only[IntKind.bits];omega⟩
theorem x2K {j:IntKind} {n:Nat} (h:evo env x=some (i32 X)) (i:evo env y=some (.int j (n:Int))) (f:n≤31):a0P c ⟨d,.binOp .shl t x y yt,ty,pos,af,g⟩ env L (.int .i64 ((X.toNat*2^n:Nat):Int)):=by
 have k:X.toNat*2^n<4294967296*2147483648:=by
  have a:2^n≤2^31:=Nat.pow_le_pow_right (by decide) f;have l:=X.isLt;have m:X.toNat*2^n≤X.toNat*2^31:=Nat.mul_le_mul_left _ a;omega
 have e:((X.toNat*2^n:Nat):Int)=IntKind.i64.wrap ((X.toNat:Int)*2^((n:Int)).toNat):=by
  have b:((X.toNat:Int)*2^((n:Int)).toNat)=((X.toNat*2^n:Nat):Int):=by rw[Int.toNat_natCast];norm_cast
  rw[b];exact(e0P .i64 _ (Int.natCast_nonneg _) (Int.ofNat_lt.2 (by simp only[IntKind.bits];omega))).symm
 rw[e];exact g1E h i ⟨by omega,by simp only[IntKind.bits];omega⟩
theorem x2L (a:evo env x=some (i32 X)):a0P c ⟨d,.binOp .sub t (.const (.int .i64 4294967295)) x yt,ty,pos,af,g⟩ env L (i32 (~~~ X)):=by
 have e:((~~~ X).toNat:Int)=IntKind.i64.wrap ((4294967295:Int)- (X.toNat:Int)):=by
  have h:=X.isLt;rw[e0P .i64 _ (by omega) (by
   have:((2^(IntKind.i64.bits-1):Nat):Int)=9223372036854775808:=by decide
   omega)]
  rw[BitVec.toNat_not];omega
 unfold i32;rw[e];exact k1O rfl a
end
theorem t2M (X:BitVec 32) (n:Nat):((X.toNat*2^n:Nat):Int)%4294967296=((X <<< n).toNat:Int):=by
 rw[BitVec.toNat_shiftLeft,Nat.shiftLeft_eq];omega
theorem o2J (E F G:BitVec 32):((E &&& F).toNat:Int)+((~~~E &&& G).toNat:Int)=((E &&& F ^^^ ~~~E &&& G).toNat:Int):=by
 have a:(E &&& F) &&& (~~~E &&& G)=0#32:=by
  apply BitVec.eq_of_getLsbD_eq;intro i hi;simp only[BitVec.getLsbD_and,BitVec.getLsbD_not,BitVec.getLsbD_zero];cases E.getLsbD i<;>simp
 have b:(E &&& F) ^^^ (~~~E &&& G)=(E &&& F) ||| (~~~E &&& G):=by
  apply BitVec.eq_of_getLsbD_eq;intro i hi;simp only[BitVec.getLsbD_xor,BitVec.getLsbD_or,BitVec.getLsbD_and,BitVec.getLsbD_not];cases E.getLsbD i<;>simp
 rw[b,←BitVec.add_eq_or_of_and_eq_zero _ _ a,BitVec.toNat_add];have c:(E &&& F).toNat+(~~~E &&& G).toNat<2^32:=by
  have d:(E &&& F).toNat≤E.toNat:=by rw[BitVec.toNat_and];exact Nat.and_le_left
  have e:(~~~E &&& G).toNat≤(~~~E).toNat:=by rw[BitVec.toNat_and];exact Nat.and_le_left
  have f:(~~~E).toNat=2^32-1-E.toNat:=BitVec.toNat_not;have:=E.isLt;omega
 rw[Nat.mod_eq_of_lt c];norm_cast
theorem x2M (A B C:BitVec 32):(A &&& B ||| A &&& C ||| B &&& C)=(A &&& B ^^^ A &&& C ^^^ B &&& C):=by
 apply BitVec.eq_of_getLsbD_eq;intro i hi;simp only[BitVec.getLsbD_xor,BitVec.getLsbD_or,BitVec.getLsbD_and];cases A.getLsbD i<;>cases B.getLsbD i<;>cases C.getLsbD i<;>rfl
end
end Go.Sl
namespace Go.Sl
open Go.BigFrame
section
theorem e2B {w:World} {g n:Nat} {cs:Array Value} {e:TypeId} (h:w.heap[g]? =some (.cells cs e (0,0))) (c:n≠0):w.freeze ⟨g,0,none⟩ n=Sl.put w g (.cells cs e (0,n)):=by
 have a:=r0F h;unfold World.freeze Sl.put;rw[if_neg c];congr 1;apply Array.ext';apply List.ext_getElem?;intro i;simp only[Array.getElem?_toList,Array.getElem?_modify,Array.getElem?_setIfInBounds];by_cases e0:g=i
 ·subst e0;have b:w.heap[g]'a= .cells cs e (0,0):=by rw[Array.getElem?_eq_getElem a]at h;exact Option.some.inj h
  simp[h,a,b]
 ·simp[e0]
theorem h1N {w:World} {b:Nat} {cs:Array Value} {e:TypeId} {fr:Nat×Nat} {v:Value} (h:w.heap[b]? =some (.cells cs e fr)):w.setCell ⟨b,0,none⟩ v=Sl.put w b (.cells (cs.setIfInBounds 0 v) e fr):=by
 have a:=r0F h;unfold World.setCell Sl.put;congr 1;apply Array.ext';apply List.ext_getElem?;intro i;simp only[Array.getElem?_toList,Array.getElem?_modify,Array.getElem?_setIfInBounds];by_cases e0:b=i
 ·subst e0;have c:w.heap[b]'a= .cells cs e fr:=by rw[Array.getElem?_eq_getElem a]at h;exact Option.some.inj h
  simp[h,a,c]
 ·simp[e0]
section
variable {c:Cx} {ops:Array Oper} {Q:Exit→Act→World→Prop} {rest:List Oper} {env:List (Nat×Value)} {L M:List a0E}
 {d:Tmp} {ty:TypeId} {pos:String} {af:Array Edge} {g:Option (Nat×Bool)} {dd:Option Tmp}
theorem y1H {t:TypeId} {x:Operand} {a:Addr} {n b:Nat} (i:evo env x=some (.slice (some a) n b)) (f:b≠0):
 a0P c ⟨dd,.call {callee:= .builtin .unsafeSliceData,args:= #[x],argTypes:= #[t]},ty,pos,af,g⟩ env L (.pointer (some a)):=by
 intro d w h;rw[execOp_builtin,builtin_unsafeSliceData];have e:(#[x]:Array Operand).map d.eval= #[.slice (some a) n b]:=by simp[h.eval i]
 rw[e,Sem.run_bind,Lib.run_unsafeSliceData_row (P:=c.P) w #[t] ty a n b f];rfl
theorem t1A {t:TypeId} {x:Operand} {n b:Nat} (f:evo env x=some (.slice none n b)):
 a0P c ⟨dd,.call {callee:= .builtin .unsafeSliceData,args:= #[x],argTypes:= #[t]},ty,pos,af,g⟩ env L (.pointer none):=by
 intro d w h;rw[execOp_builtin,builtin_unsafeSliceData];have e:(#[x]:Array Operand).map d.eval= #[.slice none n b]:=by simp[h.eval f]
 rw[e,Sem.run_bind,Lib.run_unsafeSliceData_nil (P:=c.P) w #[t] ty n b];rfl
theorem l1H {d b:TypeId} {x y:Operand} {p:Option Addr} (e:evo env x=some (.pointer p)) (f:evo env y=some (.int .i64 0)):
 a0P c ⟨dd,.call {callee:= .builtin .unsafeString,args:= #[x,y],argTypes:= #[d,b]},ty,pos,af,g⟩ env L (.string ByteArray.empty):=by
 intro i w h;rw[execOp_builtin,builtin_unsafeString];have:=Lib.run_unsafeString_none (P:=c.P) w d b ty p;simp[h.eval e,h.eval f,this]
theorem l1I {q B e:TypeId} {x y:Operand} {k cap n:Nat} {l:List UInt8} (I:c.P.underlying q=some (.pointer e)) (F:c.P.cellsOf e=1) (J:evo env x=some (.pointer (some ⟨k,0,none⟩))) (N:evo env y=some (.int .i64 n)) (H:n=l.length)
 (hL:Fnd L (b0I e 1 (.slice (some ⟨k,0,none⟩) n cap) n (l.map a0Q)) M) (s:l≠ []) (U:l.length≤1000000000)
 (h:OW c ops Q rest ((d,.string ⟨l.toArray⟩)::env) M) (hd:Nat.blt d c.n=true:=by rfl):
 OW c ops Q (⟨some d,.call {callee:= .builtin .unsafeString,args:= #[x,y],argTypes:= #[q,B]},ty,pos,af,none⟩::rest) env L:=by
 intro a w g;subst H;have i:=hL.sat g.sat;obtain⟨_,f⟩:=f0O i;rcases f with ⟨m,_⟩| ⟨O,r,cur,m,R,S,T,D,A⟩
 ·cases m
 simp only[Value.slice.injEq,Option.some.injEq,Addr.mk.injEq]at m;obtain⟨⟨rfl,_,_⟩,_,rfl⟩:=m;have hb:=A.pts;have p:l.length≠0:=by simpa using s
 have z:=Lib.run_unsafeString_row (P:=c.P) w q B ty e I F k cur.length (by simp[World.shape?,hb]) l s (by omega) (by omega) (fun j u v=>by
  have G:j<l.length:=(List.getElem?_eq_some_iff.1 v).1;have t:(cur.take (l.length*1))[j]? =(l.map a0Q)[j]? :=by rw[D]
  rw[List.getElem?_take_of_lt (by omega),List.getElem?_map,v]at t;simp[World.cell?,j0C,hb,t,a0Q])
 rw[e2B hb p]at z;refine wpList_plain rfl fun K E=> ?_;unfold Oper.wp;rw[execOp_builtin,builtin_unsafeString];have C:(#[x,y]:Array Operand).map a.eval= #[.pointer (some ⟨k,0,none⟩),.int .i64 l.length]:=by simp[g.eval J,g.eval N]
 rw[C];simp only[Sem.run_bind,z,Result.andThen_ok,Sem.run_pure,Oper.upon];exact E _ _ (h _ _ ((⟨g.size,g.slots,g.defers,(A.put (o':= .cells cur.toArray e (0,l.length))).tail,g.like.put _ _⟩:b0J c env M a _).put d _ hd))
end
end
end Go.Sl
namespace Go.Sl
open Go.Sb
open Go.WideMaps
theorem t1B {α β:Type} {f:α→Option β} {g:α→β} : ∀ {l:List α},(∀x∈l,f x=some (g x))→l.mapM f=some (l.map g)
 | [],_=>rfl
 |x::l,h=>by
  rw[List.mapM_cons,h x (by simp),t1B (l:=l) fun y a=>h y (by simp[a])];rfl
theorem o2K (b:UInt8):(Lit.int .u8 (b.toNat:Int)).wf=true:=by
 have:=b.toNat_lt;simp only[Lit.wf,IntKind.min,IntKind.max,IntKind.bits,IntKind.signed,Bool.and_eq_true,decide_eq_true_eq];simp;omega
def x0U (P:Program) (k n e:Nat):Bool:=k0Y P k n e 1&&(b1I P e&&(P.keyType k&&(P.cellsOf k == n&&(P.cellsOf e == 1&&(!(P.types.size == 0)&&(P.keyTypeAt 2 k&&P.tiled 2 k))))))
theorem y0Z {P:Program} {k n e:Nat} (f:x0U P k n e=true) {x:B} (g:x.length=n): ∃l,keyOf P k (.agg (x.map a0Q).toArray)=some l:=by
 simp only[x0U,Bool.and_eq_true,beq_iff_eq,Bool.not_eq_true',beq_eq_false_iff_ne]at f;obtain⟨a,b,o,d,p,u,_⟩:=f;obtain⟨m,t⟩: ∃m,P.types.size=m+1:=⟨P.types.size-1,by omega⟩;simp only[k0Y,Bool.and_eq_true]at a;obtain⟨a,_⟩:=a;split at a
 case h_2=>cases a
 rename_i l h hu;simp only[Bool.and_eq_true,beq_iff_eq]at a;obtain⟨rfl,rfl⟩:=a;unfold b1I at b;split at b
 case h_2=>cases b
 rename_i c;have s:((List.range l).mapM fun i=>P.keyLits (m+1) h (((x.map a0Q).drop (i*1)).take 1))=some ((List.range l).map fun i=> [Lit.int .u8 ((x.getD i 0).toNat:Int)]):=by
  refine t1B fun i hi=> ?_;have r:=List.mem_range.1 hi;have j:((x.map a0Q).drop (i*1)).take 1= [a0Q (x.getD i 0)]:=by
   rw[Nat.mul_one,List.take_one,List.head?_drop,List.getElem?_map,List.getElem?_eq_getElem (by omega)];simp[List.getD_eq_getElem?_getD,List.getElem?_eq_getElem (show i<x.length by omega)]
  rw[j];simp[Program.keyLits,c,a0Q,o2K]
 refine⟨.string (keyBytes ((List.range l).map fun i=> [Lit.int .u8 ((x.getD i 0).toNat:Int)]).flatten),?_⟩;unfold keyOf;rw[hu];have q:(Value.agg (x.map a0Q).toArray).formed P k=true:=by
  simp[Value.formed,hu,d,g]
 simp only[o,q,Bool.and_self,if_true];rw[t];unfold Program.keyLits;rw[hu];simp only[Value.cells,d,p,List.length_map,g,s,if_true,Option.map_some]
theorem i2X {x y:B} (h:x.map a0Q=y.map a0Q):x=y:=by
 induction x generalizing y with
 |nil=>cases y with
  |nil=>rfl
  |cons b y=>simp at h
 |cons a x ih=>
  cases y with
  |nil=>simp at h
  |cons b y=>
   simp only[List.map_cons,List.cons.injEq,a0Q,Value.int.injEq,true_and]at h;rw[ih h.2,show a=b from UInt8.toNat_inj.1 (by omega)]
theorem o2L {P:Program} {k n e:Nat} (E:x0U P k n e=true):w0C P k (fun l:B=> .agg (l.map a0Q).toArray) (fun l=>l.length=n):=by
 have c:=E;simp only[x0U,Bool.and_eq_true,beq_iff_eq,Bool.not_eq_true',beq_eq_false_iff_ne]at E;obtain⟨b,O,Q,R,S,T,H,K⟩:=E;have I:(match P.underlying k with|some (.array _ _)|some (.struct _)=>true|_=>false)=true:=by
  simp only[k0Y,Bool.and_eq_true]at b;obtain⟨b,_⟩:=b;split at b
  ·rename_i h;rw[h]
  ·cases b
 have g:=deep_law (P:=P) (m:=2) (by omega) H K I;refine⟨fun w J x u=> ?_,fun w x m u v=> ?_,fun w x u=> ?_⟩
 ·obtain⟨l,z⟩:=y0Z c u;exact g.check w J z
 ·obtain⟨V,f⟩:=y0Z c u;have F: ∃G,P.underlying k=some G∧ ∀es,Instr.findNow G (.agg (x.map a0Q).toArray) es 0=(match es with| []=>some none|_=>none):=by
   simp only[k0Y,Bool.and_eq_true]at b;obtain⟨b,_⟩:=b;split at b
   ·rename_i h;exact⟨_,h,fun es=>by cases es<;>simp[Instr.findNow,Instr.sameNow]⟩
   ·cases b
  obtain⟨G,hu,y⟩:=F;have s: ∀(m:List (B×MapEntry)),(∀p∈m,p.1.length=n∧p.2.key= .agg (p.1.map a0Q).toArray)→ ∀i,(Instr.findAsking k (.agg (x.map a0Q).toArray) (m.map (·.2)) i).run P w= .ok ((m.findIdx? (fun p=>decide (p.1=x))).bind fun j=>(m[j]?).map fun p=>(j+i,p.2.val)) w:=by
   intro m
   induction m with
   |nil=>intro _ i;simp[Instr.findAsking]
   |cons p m ih=>
    intro v i;obtain⟨A,C⟩:=v p (by simp);obtain⟨U,a⟩:=y0Z c A;obtain⟨r,N,d⟩:=run_equal_deep (P:=P) w (m:=2) (by omega) H I f a;have t:r=decide (p.1=x):=by
     by_cases e:p.1=x
     ·simp only[e,decide_true];rw[e]at a;exact d.2 (Option.some.inj (f.symm.trans a))
     ·simp only[e,decide_false];cases D:r with
      |false=>rfl
      |true=>
       exfalso;have L:=d.1 D;rw[←L]at a;have o:=g.inj f a;simp only[Value.agg.injEq]at o;exact e (i2X (by simpa using congrArg Array.toList o)).symm
    simp only[List.map_cons,Instr.findAsking,C,Sem.run_bind,N,Result.andThen_ok,List.findIdx?_cons];by_cases e:p.1=x
    ·simp[t,e]
    ·simp only[t,e,decide_false,Bool.false_eq_true,if_false];rw[ih (fun q M=>v q (by simp[M])) (i+1)];cases m.findIdx? (fun p=>decide (p.1=x))with
     |none=>simp
     |some j=>
      simp only[Option.bind_some,Option.map_some,List.getElem?_cons_succ];rw[show j+(i+1)=j+1+i by omega]
  simp only[Instr.findKey,Sem.run_bind,run_underlying hu,Result.andThen_ok,y];cases m with
  |nil=>simp
  |cons p m=>
   simp only[List.map_cons];exact s (p::m) v 0
 ·obtain⟨l,z⟩:=y0Z c u;exact g.stays w z
end Go.Sl

/- Part of the proof; no statement of its own. -/
import Derived.Test.YtpinhnikemamjaaGreatDoorS06
import Derived.Test.YtpinhnikemamjaaGreatDoorS04
import Derived.Laws.Cells
import Derived.Test.YtpinhnikemamjaaGreatDoorS05
import Derived.Lib.UnsafeStr
import Derived.DeepKeys4
set_option linter.all false
set_option maxRecDepth 4000
set_option maxHeartbeats 4000000
namespace Go.Sl
open Go.BigFrame
section
def w0D (e:TypeId) (size:Nat) (v:Value) (n:Nat) (xs:List Value):a0E:=fun l=>
 xs.length=n*size∧((v= .slice none 0 0∧n=0∧l= [])∨
  ∃(g o cap:Nat) (cur:List Value),v= .slice (some ⟨g,o,none⟩) n cap∧n≤cap∧cap≤maxLen∧o+cap*size≤cur.length∧(cur.drop o).take (n*size)=xs∧l= [(g,.cells cur.toArray e (0,0))])
theorem s1Y (e:TypeId) (size:Nat) {w:World} {L:List a0E} (h:Sat w L):Sat w (w0D e size (.slice none 0 0) 0 []::L):=by
 obtain⟨l,h1,h2,h3⟩:=h;exact⟨l,⟨[],l,rfl,⟨by simp,.inl ⟨rfl,rfl,rfl⟩⟩,h1⟩,h2,h3⟩
theorem w0K {e:TypeId} {size:Nat} {v:Value} {n:Nat} {xs:List Value} {w:World} {L:List a0E} (h:Sat w (w0D e size v n xs::L)):
 xs.length=n*size∧((v= .slice none 0 0∧n=0∧Sat w L)∨
  ∃(g o cap:Nat) (cur:List Value),v= .slice (some ⟨g,o,none⟩) n cap∧n≤cap∧cap≤maxLen∧o+cap*size≤cur.length∧(cur.drop o).take (n*size)=xs∧Sat w (pts g (.cells cur.toArray e (0,0))::L)):=by
 obtain⟨l,⟨l1,l2,rfl,⟨hl,h1⟩,h2⟩,hn,hh⟩:=h;refine⟨hl,?_⟩;rcases h1 with ⟨rfl,rfl,rfl⟩| ⟨g,o,cap,cur,rfl,a1,a2,a3,a4,rfl⟩
 ·exact .inl ⟨rfl,rfl,l2,h2,hn,hh⟩
 ·exact .inr ⟨g,o,cap,cur,rfl,a1,a2,a3,a4,_,⟨_,l2,rfl,rfl,h2⟩,hn,hh⟩
theorem g1M {e:TypeId} {size:Nat} {n g o cap:Nat} {cur xs:List Value} {w:World} {L:List a0E} (h:Sat w (pts g (.cells cur.toArray e (0,0))::L)) (h1:n≤cap) (h2:cap≤maxLen) (h3:o+cap*size≤cur.length)
 (h4:(cur.drop o).take (n*size)=xs):Sat w (w0D e size (.slice (some ⟨g,o,none⟩) n cap) n xs::L):=by
 obtain⟨l,⟨l1,l2,rfl,h5,h6⟩,hn,hh⟩:=h;have hnc:n*size≤cap*size:=Nat.mul_le_mul_right _ h1;exact⟨_,⟨l1,l2,rfl,⟨by rw[←h4];simp;omega,.inr ⟨g,o,cap,cur,rfl,h1,h2,h3,h4,h5⟩⟩,h6⟩,hn,hh⟩
theorem o2D {e:TypeId} {size:Nat} {v:Value} {n:Nat} {xs:List Value} {w:World} {L:List a0E} (h:Sat w (w0D e size v n xs::L)):v.oneCell'=true:=by
 obtain⟨_,hc⟩:=w0K h;rcases hc with ⟨rfl,_⟩| ⟨g,o,cap,cur,rfl,_⟩<;>rfl
section
variable {c:Cx} {ops:Array Oper} {Q:Exit→Act→World→Prop} {rest:List Oper} {env:List (Nat×Value)} {L M:List a0E}
 {d:Tmp} {ty:TypeId} {pos:String} {af:Array Edge} {y:Code}
theorem d2X {s x:Operand} {t tx e size bytes n m:Nat} {v y z:Value} {xs news:List Value} (ht:c0X c.P t e size=true) (hby:r0K c.P e bytes=true)
 (hz:h0D c.P e=some z) (hzs:z.cells.size=size) (hs:evo env s=some v) (hx:evo env x=some y)
 (hL:Fnd L (w0D e size v n xs) M) (hsrc: ∀a w,b0J c env L a w→Src c.P size tx y m news w) (h63:n+m≤maxLen) (hb:(n+m)*bytes≤140737488355328)
 (h: ∀v',v'.oneCell'=true→OW c ops Q rest ((d,v')::env) (w0D e size v' (n+m) (xs++news)::M)) (hd:Nat.blt d c.n=true:=by rfl):
 OW c ops Q (⟨some d,.call {callee:= .builtin .append,args:= #[s,x],argTypes:= #[t,tx]},ty,pos,af,none⟩::rest) env L:=by
 intro a w hh;simp only[c0X,Bool.and_eq_true]at ht;obtain⟨ht1,ht2⟩:=ht;split at ht1
 case h_2=>cases ht1
 rename_i e' hu;simp only[beq_iff_eq]at ht1;subst ht1;unfold r0K at hby;split at ht2
 case h_2=>cases ht2
 rename_i i hi;unfold h0D at hz;rw[hi]at hby hz;simp only[beq_iff_eq]at ht2 hby;subst ht2;subst hby;have hsr:=hsrc a w hh;have hsrD:=hsrc a w.drew hh.drew;have hsat:=hL.sat hh.sat;obtain⟨hlen,hcase⟩:=w0K hsat;refine wpList_plain rfl fun K hK=> ?_;have hgoal: ∃v' w',(Builtin.append_ #[t,tx] ty #[v,y]).run c.P w= .ok v' w'∧Sat w' (w0D e' i.size v' (n+m) (xs++news)::M)∧d0S w w':=by
  have hnl:news.length=m*i.size:=hsr.newsLen;have hlen':(xs++news).length=(n+m)*i.size:=by rw[List.length_append,hlen,hnl,Nat.add_mul]
  have grown: ∀(old:Nat),old<n+m→Sat w M→
   Sat (w.drew.alloc (.cells ((xs++news).toArray++Builtin.zeroCells z.cells (grownCap w (n+m) old e'- (n+m))) e')) (w0D e' i.size (.slice (some ⟨w.heap.size,0,none⟩) (n+m) (grownCap w (n+m) old e')) (n+m) (xs++news)::M):=by
   intro old ho hM;have hge:=grownCap_ge w (n+m) old e';have h1:=(hM.drew).alloc (.cells ((xs++news).toArray++Builtin.zeroCells z.cells (grownCap w (n+m) old e'- (n+m))) e');have h2:((xs++news).toArray++Builtin.zeroCells z.cells (grownCap w (n+m) old e'- (n+m)))=((xs++news)++(Builtin.zeroCells z.cells (grownCap w (n+m) old e'- (n+m))).toList).toArray:=by
    apply Array.ext';simp
   rw[h2]at h1 ⊢;refine g1M h1 hge (grownCap_le_maxLen w (n+m) old e' h63) ?_ ?_
   ·rw[List.length_append,hlen',Array.length_toList,size_zeroCells,hzs,Nat.zero_add,←Nat.add_mul];exact Nat.mul_le_mul_right _ (by omega)
   ·rw[List.drop_zero,←hlen'];exact List.take_left
  rcases hcase with ⟨rfl,rfl,hM⟩| ⟨g,o,cap,cur,rfl,hnc,hcm,hcl,htake,hM⟩
  ·have hxs:xs= []:=List.eq_nil_of_length_eq_zero (by simpa using hlen);subst hxs;by_cases hm:m=0
   ·subst hm;have hn0:news= []:=List.eq_nil_of_length_eq_zero (by simpa using hnl);subst hn0;refine⟨.slice none 0 0,w,?_,s1Y _ _ hM,d0S.refl w⟩;rcases hsr.kind with ⟨e2,hk⟩|hk<;>
     simp[Builtin.append_,run_underlying hu,run_underlying hk,sizeOf,typeInfo,hi,hsr.len,hsr.cells]
   ·have hr:=run_append_grow_src (P:=c.P) (w:=w) t tx ty e' i z hu hi hz none 0 0 [] (by simp[Builtin.firstCells]) y m news hsr (by omega) (by simp only[maxLen]at h63;omega) (growslice_fits (by omega) hb);simp only[Nat.zero_add,List.nil_append]at hr grown ⊢;exact⟨_,_,hr,grown 0 (by omega) hM,(d0S.refl w).drew.alloc _⟩
  ·have hnc':n*i.size≤cap*i.size:=Nat.mul_le_mul_right _ hnc;by_cases hroom:n+m≤cap
   ·have hroom':n*i.size+m*i.size≤cap*i.size:=by rw[←Nat.add_mul];exact Nat.mul_le_mul_right _ hroom
    have hfit:o+n*i.size+0+news.length≤cur.toArray.size:=by
     rw[List.size_toArray,hnl];omega
    have hst:=n0T (P:=c.P) news (o+n*i.size) 0 cur.toArray w hM.pts hfit hsr.one;simp only[Nat.add_zero]at hst;refine⟨.slice (some ⟨g,o,none⟩) (n+m) cap,_,?_,?_,(d0S.refl w).put g (.cells (cur.toArray.extract 0 (o+n*i.size)++news.toArray++cur.toArray.extract (o+n*i.size+news.length) cur.toArray.size) e' (0,0))⟩
    ·rcases hsr.kind with ⟨e2,hk⟩|hk<;>
      simp[Builtin.append_,run_underlying hu,run_underlying hk,sizeOf,typeInfo,hi,hsr.len,hsr.cells,hroom,j0C,hst]
    ·have hcl':o+n*i.size+news.length≤cur.length:=by simpa using hfit
     have h2:(cur.toArray.extract 0 (o+n*i.size)++news.toArray++cur.toArray.extract (o+n*i.size+news.length) cur.toArray.size)=(cur.take (o+n*i.size)++news++cur.drop (o+n*i.size+news.length)).toArray:=by
      apply Array.ext';simp;rw[List.take_of_length_le (by simp)]
     rw[h2];refine g1M hM.put hroom hcm ?_ ?_
     ·simp only[List.length_append,List.length_take,List.length_drop];omega
     ·have e1:cur.take (o+n*i.size)=cur.take o++xs:=by rw[List.take_add,htake]
      have hto:(cur.take o).length=o:=by simp;omega
      rw[e1,List.append_assoc,List.append_assoc,List.drop_left' hto,←List.append_assoc,←hlen'];exact List.take_left
   ·have hold:(Builtin.firstCells i.size n (.slice (some ⟨g,o,none⟩) n cap)).run c.P w.drew= .ok xs.toArray w.drew:=by
     have h1:=g0U (P:=c.P) (w:=w.drew) (b:=g) (o:=o) (n:=n*i.size) (cs:=cur.toArray) (e:=e') (fr:=(0,0)) hM.drew.pts (by
      rw[List.size_toArray];omega)
     have h2:cur.toArray.extract o (o+n*i.size)=xs.toArray:=by
      apply Array.ext';rw[Array.toList_extract,List.extract_eq_take_drop,show o+n*i.size-o=n*i.size by omega];exact htake
     simp only[Builtin.firstCells];rw[h1,h2]
    have hr:=run_append_grow_src (P:=c.P) (w:=w) t tx ty e' i z hu hi hz (some ⟨g,o,none⟩) n cap xs hold y m news hsr (by omega) (by simp only[maxLen]at h63;omega) (growslice_fits (by omega) hb);exact⟨_,_,hr,grown cap (by omega) hM.tail,(d0S.refl w).drew.alloc _⟩
 obtain⟨v',w',hr,hs',hl⟩:=hgoal;unfold Oper.wp;rw[execOp_builtin,builtin_append];have e1:(#[s,x]:Array Operand).map a.eval= #[v,y]:=by simp[hh.eval hs,hh.eval hx]
 rw[e1];simp only[Sem.run_bind,hr,Result.andThen_ok,Sem.run_pure,Oper.upon];exact hK _ _ (h v' (o2D hs') _ _ ((⟨hh.size,hh.slots,hh.defers,hs',hh.like.trans hl⟩:b0J c env _ a w').put d v' hd))
theorem l1C {t e n:TypeId} {x:Operand} {dd:Option Tmp} {g:Option (Nat×Bool)} {e' size k:Nat} {v:Value} {xs:List Value} (ht:c0X c.P t e n=true) (hx:evo env x=some v) (hL:Fnd L (w0D e' size v k xs) M):
 a0P c ⟨dd,.call {callee:= .builtin .len,args:= #[x],argTypes:= #[t]},ty,pos,af,g⟩ env L (.int .i64 k):=by
 intro a w hh;obtain⟨_,hcase⟩:=w0K (hL.sat hh.sat);rcases hcase with ⟨rfl,rfl,_⟩| ⟨g,o,cap,cur,rfl,_⟩
 ·exact r0Z ht hx a w hh
 ·exact r0Z ht hx a w hh
theorem t2K {e:TypeId} {size:Nat} {v:Value} {n:Nat} {xs:List Value} (hL:Fnd L (w0D e size v n xs) M) (hn:0<n)
 (h: ∀(g o cap:Nat) (cur:List Value),v= .slice (some ⟨g,o,none⟩) n cap→n≤cap→cap≤maxLen→o+cap*size≤cur.length→(cur.drop o).take (n*size)=xs→CW c y Q env (pts g (.cells cur.toArray e (0,0))::M)):CW c y Q env L:=fun a w hh=>by
 obtain⟨hl,hc⟩:=w0K (hL.sat hh.sat);rcases hc with ⟨_,h0,_⟩| ⟨g,o,cap,cur,hv,h1,h2,h3,h4,hs⟩
 ·omega
 ·exact h g o cap cur hv h1 h2 h3 h4 a w ⟨hh.size,hh.slots,hh.defers,hs,hh.like⟩
end
theorem o2E {e:TypeId} {n g o cap k:Nat} {cur xs:List Value} {w:World} {L:List a0E} (h:Sat w (pts g (.cells cur.toArray e (0,0))::L)) (h1:n≤cap) (h2:cap≤maxLen) (h3:o+cap*1≤cur.length)
 (h4:(cur.drop o).take (n*1)=xs) (hk:k≤n):Sat w (w0D e 1 (.slice (b1L (some ⟨g,o,none⟩) k cap 1) (n-k) (cap-k)) (n-k) (xs.drop k)::L):=by
 unfold b1L;have hxl:xs.length≤n:=by rw[←h4];simp;omega
 by_cases e0:cap=k
 ·subst e0;obtain rfl:n=cap:=by omega
  rw[if_pos rfl];refine g1M (size:=1) (o:=o) (cap:=n-n) (n:=n-n) h (by omega) (by omega) (by omega) ?_;rw[List.drop_eq_nil_of_le hxl,Nat.sub_self];simp
 ·rw[if_neg e0];simp only[Option.map_some,j0C,Nat.mul_one];refine g1M (size:=1) (o:=o+k) (cap:=cap-k) (n:=n-k) h (by omega) (by omega) (by omega) ?_;rw[←h4,List.drop_take,List.drop_drop,Nat.mul_one,Nat.mul_one]
end
end Go.Sl
namespace Go.Sl
section
section
variable {c:Cx} {env:List (Nat×Value)} {L M:List a0E} {dd:Option Tmp} {ty:TypeId} {pos:String} {af:Array Edge} {g:Option (Nat×Bool)} {Q:Exit→Act→World→Prop} {y:Code}
theorem a2V {cur:List Value} {q n:Nat} {vs:List Value} (h:(cur.drop q).take n=vs) (hl:vs.length=n):q+n≤cur.length∧cur.toArray.extract q (q+n)=vs.toArray∨n=0:=by
 by_cases h0:n=0
 ·exact .inr h0
 ·left;have h1:=congrArg List.length h;rw[List.length_take,List.length_drop,hl]at h1;refine⟨by omega,?_⟩;rw[←h];apply Array.ext';rw[Array.toList_extract,List.extract_eq_drop_take,Nat.add_sub_cancel_left]
theorem x0T {x:Operand} {t:TypeId} {b o cap n k size:Nat} {e:TypeId} {xs vs:List Value} (ht:o0N c.P t k=true) (hx:evo env x=some (.pointer (some ⟨b,o,none⟩)))
 (hL:Fnd L (b0I e size (.slice (some ⟨b,0,none⟩) n cap) n xs) M) (hv:(xs.drop o).take k=vs) (hk:vs.length=k) (h0:0<k):a0P c ⟨dd,.load t x,ty,pos,af,g⟩ env L (.agg vs.toArray):=by
 intro a w hh;obtain⟨hl,hc⟩:=f0O (hL.sat hh.sat);rcases hc with ⟨h0,_⟩| ⟨b',cap',cur,h0',h1,h2,h3,h4,hs⟩
 ·cases h0
 ·simp only[Value.slice.injEq,Option.some.injEq,Addr.mk.injEq]at h0';obtain⟨⟨rfl,_,_⟩,_,rfl⟩:=h0';have hlen:=congrArg List.length hv;rw[List.length_take,List.length_drop,hk]at hlen;have hcl:(n*size)≤cur.length:=by rw[h3];exact Nat.mul_le_mul_right _ h1
  have hcur:(cur.drop o).take k=vs:=by
   rw[←hv,←h4,List.drop_take,List.take_take,Nat.min_eq_left (by omega)]
  rcases a2V hcur hk with ⟨h5,h6⟩|h5
  ·exact a0K (c:=c) (L:=pts b (.cells cur.toArray e (0,0))::M) (M:=M) (d:=dd) (g:=g) (ty:=ty) (pos:=pos) (af:=af) (hL:=⟨Fnd.here⟩) ht hx (by simpa using h5) h6 a w ⟨hh.size,hh.slots,hh.defers,hs,hh.like⟩
  ·omega
theorem b1R {e:TypeId} {b n:Nat} {cs:List Value} {w:World} {L:List a0E} (hn:cs.length=n) (hm:n≤maxLen) (h:Sat w (pts b (.cells cs.toArray e (0,0))::L)):
 Sat w (b0I e 1 (.slice (some ⟨b,0,none⟩) n n) n cs::L):=
 r0J h (Nat.le_refl _) hm (by simpa using hn) (by rw[List.take_of_length_le];simp;omega)
theorem o0K (size:Nat) {e:TypeId} {b:Nat} {w:World} {L:List a0E} (h:Sat w (pts b (.cells (#[]:Array Value) e (0,0))::L)):
 Sat w (b0I e size (.slice (some ⟨b,0,none⟩) 0 0) 0 []::L):=
 r0J (cur:= []) h (Nat.le_refl _) (by simp[maxLen]) (by simp) (by simp)
def c0B (H:b0B):a0E:=fun l=>l=H
theorem i1X {w:World} {H:b0B} {b:Nat} {o:Obj} (h:Sat w (c0B H::L)) (hm:(b,o)∈H):w.heap[b]? =some o:=by
 obtain⟨l,⟨l1,l2,rfl,rfl,h2⟩,hn,hh⟩:=h;exact hh b o (List.mem_append_left _ hm)
theorem o2F {w:World} {H:b0B} {b:Nat} {o:Obj} (h:Sat w (pts b o::c0B H::L)):Sat w (c0B ((b,o)::H)::L):=by
 obtain⟨l,⟨l1,l2,rfl,rfl,l3,l4,rfl,rfl,h2⟩,hn,hh⟩:=h;exact⟨(b,o)::l3++l4,⟨(b,o)::l3,l4,rfl,rfl,h2⟩,by simpa using hn,by simpa using hh⟩
theorem o2G {w:World} (h:Sat w L):Sat w (c0B []::L):=by
 obtain⟨l,h1,h2,h3⟩:=h;exact⟨l,⟨[],l,rfl,rfl,h1⟩,h2,h3⟩
def i0V (H:b0B) (e:TypeId) (size:Nat) (v:Value) (n:Nat) (xs:List Value):Prop:=
 xs.length=n*size∧((v= .slice none 0 0∧n=0)∨ ∃(b o cap:Nat) (cur:List Value),v= .slice (some ⟨b,o,none⟩) n cap∧n≤cap∧(b,.cells cur.toArray e (0,0))∈H∧(cur.drop o).take (n*size)=xs)
theorem i0V.more {H H':b0B} {e:TypeId} {size n:Nat} {v:Value} {xs:List Value} (h:i0V H e size v n xs) (hs: ∀p∈H,p∈H'):i0V H' e size v n xs:=by
 obtain⟨h1,h2⟩:=h;refine⟨h1,h2.imp id ?_⟩;rintro⟨b,o,cap,cur,a1,a2,a3,a4⟩;exact⟨b,o,cap,cur,a1,a2,hs _ a3,a4⟩
theorem i0V.one {H:b0B} {e:TypeId} {size n:Nat} {v:Value} {xs:List Value} (h:i0V H e size v n xs):v.oneCell'=true:=by
 obtain⟨_,⟨rfl,_⟩| ⟨b,o,cap,cur,rfl,_⟩⟩:=h<;>rfl
theorem l1D (H:b0B) (e:TypeId) (size:Nat):i0V H e size (.slice none 0 0) 0 []:=⟨by simp,.inl ⟨rfl,rfl⟩⟩
theorem d0W {H:b0B} {e:TypeId} {size n:Nat} {v:Value} {xs:List Value} (h:i0V H e size v n xs): ∃p cap,v= .slice p n cap∧n≤cap:=by
 obtain⟨_,⟨rfl,rfl⟩| ⟨b,o,cap,cur,rfl,h2,_⟩⟩:=h
 ·exact⟨none,0,rfl,Nat.le_refl _⟩
 ·exact⟨_,cap,rfl,h2⟩
theorem g0V {H:b0B} {e:TypeId} {size n:Nat} {v:Value} {xs:List Value} (h:i0V H e size v n xs) (hn:0<n): ∃(b o cap:Nat) (cur:List Value),v= .slice (some ⟨b,o,none⟩) n cap∧n≤cap∧(b,.cells cur.toArray e (0,0))∈H∧(cur.drop o).take (n*size)=xs∧xs.length=n*size:=by
 obtain⟨h1,⟨_,rfl⟩| ⟨b,o,cap,cur,a1,a2,a3,a4⟩⟩:=h
 ·omega
 ·exact⟨b,o,cap,cur,a1,a2,a3,a4,h1⟩
theorem o2H {w:World} {H:b0B} {e:TypeId} {size n:Nat} {v:Value} {xs:List Value} (h:Sat w (b0I e size v n xs::c0B H::L)): ∃H',(∀p∈H,p∈H')∧i0V H' e size v n xs∧Sat w (c0B H'::L):=by
 obtain⟨hl,hc⟩:=f0O h;rcases hc with ⟨rfl,rfl,hs⟩| ⟨b,cap,cur,rfl,h1,h2,h3,h4,hs⟩
 ·exact⟨H,fun _ h=>h,⟨hl,.inl ⟨rfl,rfl⟩⟩,hs⟩
 ·exact⟨(b,.cells cur.toArray e (0,0))::H,fun _ h=>List.mem_cons_of_mem _ h,⟨hl,.inr ⟨b,0,cap,cur,rfl,h1,List.mem_cons_self,by simpa using h4⟩⟩,o2F hs⟩
theorem a1L {x:Operand} {t:TypeId} {b q:Nat} {H:b0B} {cur:List Value} {e:TypeId} {v:Value} (ht:f0Q c.P t=true) (hx:evo env x=some (.pointer (some ⟨b,q,none⟩))) (hL:Fnd L (c0B H) M) (hm:(b,.cells cur.toArray e (0,0))∈H) (hv:nth cur q=some v):
 a0P c ⟨dd,.load t x,ty,pos,af,g⟩ env L v:=
 w0Z ht hx hL fun w L' hs=>by
  have h2:=i1X hs hm;rw[e0F]at hv;simp[World.cell?,h2,hv]
theorem f0A {x:Operand} {t:TypeId} {b q k:Nat} {H:b0B} {cur vs:List Value} {e:TypeId} (ht:o0N c.P t k=true) (hx:evo env x=some (.pointer (some ⟨b,q,none⟩))) (hL:Fnd L (c0B H) M) (hm:(b,.cells cur.toArray e (0,0))∈H)
 (hv:(cur.drop q).take k=vs) (hk:vs.length=k) (h0:0<k):a0P c ⟨dd,.load t x,ty,pos,af,g⟩ env L (.agg vs.toArray):=by
 intro a w hh;have h2:=i1X (hL.sat hh.sat) hm;rcases a2V hv hk with ⟨h5,h6⟩|h5
 ·simp[execOp,hh.eval hx,Instr.loadAt,Instr.sureAddr,loadVar,j0A ht,j0H ht,g0U h2 (show q+k≤cur.toArray.size by simpa using h5),h6]
 ·omega
theorem i0I {size n o i:Nat} {cur xs:List Value} (h:(cur.drop o).take (n*size)=xs) (hi:i<n):(cur.drop (o+i*size)).take size=(xs.drop (i*size)).take size:=by
 have:i*size+size≤n*size:=by rw[←Nat.succ_mul];exact Nat.mul_le_mul_right _ hi
 rw[←h,List.drop_take,List.take_take,List.drop_drop,Nat.min_eq_left (by omega)]
theorem i0J {α:Type} {f:α→List Value} {size:Nat} (hf: ∀x,(f x).length=size): ∀l:List α,(l.flatMap f).length=l.length*size
 | []=>by simp
 |x::l=>by rw[List.flatMap_cons,List.length_append,hf,i0J hf l,List.length_cons,Nat.succ_mul];omega
theorem p0J {α:Type} {f:α→List Value} {size:Nat} (hf: ∀x,(f x).length=size): ∀(l:List α) {i:Nat} (hi:i<l.length),((l.flatMap f).drop (i*size)).take size=f l[i]
 | [],i,hi=>by simp at hi
 |x::l,0,hi=>by
  rw[Nat.zero_mul,List.drop_zero,List.flatMap_cons,List.take_left' (hf x)];rfl
 |x::l,i+1,hi=>by
  rw[List.flatMap_cons,show(i+1)*size=(f x).length+i*size by rw[hf,Nat.succ_mul];omega,List.drop_length_add_append];exact p0J hf l (by simpa using hi)
theorem b1S {tx e' s' size n cap:Nat} {p:Option Addr} {H:b0B} {xs:List Value} {e:TypeId} (hk:c0X c.P tx e' s'=true) (h:i0V H e size (.slice p n cap) n xs) (hL:Fnd L (c0B H) M) (h1: ∀u∈xs,u.oneCell'=true):
 ∀a w,b0J c env L a w→Src c.P size tx (.slice p n cap) n xs w:=by
 intro a w hh;simp only[c0X,Bool.and_eq_true]at hk;obtain⟨hk1,_⟩:=hk;split at hk1
 case h_2=>cases hk1
 rename_i e2 hu;obtain⟨hl,h2⟩:=h;rcases h2 with ⟨h3,h4⟩| ⟨b,o,cap2,cur,h3,h4,h5,h6⟩
 ·cases h3
  rw[Nat.zero_mul]at hl;rw[List.eq_nil_of_length_eq_zero hl];exact Src.ofNil w hu 0
 ·cases h3
  refine Src.ofSlice w hu _ _ _ _ hl (fun j u hj=> ?_) h1;have hb:=i1X (hL.sat hh.sat) h5;have hj':j<n*size:=by rw[←hl];exact(List.getElem?_eq_some_iff.1 hj).1
  rw[←h6,List.getElem?_take_of_lt hj',List.getElem?_drop]at hj;simp[World.cell?,j0C,hb,hj]
theorem t0J {e:TypeId} {size n:Nat} {v:Value} {xs:List Value} {H:b0B} {M':List a0E} (hL:Fnd L (b0I e size v n xs) M) (hM:Fnd M (c0B H) M') (h: ∀H',(∀p∈H,p∈H')→i0V H' e size v n xs→CW c y Q env (c0B H'::M')):CW c y Q env L:=fun a w hh=>by
 have h1:Sat w (b0I e size v n xs::c0B H::M'):=(hL.sat hh.sat).perm (List.Perm.cons _ hM);obtain⟨H',h2,h3,h4⟩:=o2H h1;exact h H' h2 h3 a w ⟨hh.size,hh.slots,hh.defers,h4,hh.like⟩
theorem y1G {cur vs:List Value} {o:Nat} (ho:o≤cur.length):j0I cur.toArray o vs.toArray=(cur.take o++vs++cur.drop (o+vs.length)).toArray:=by
 unfold j0I;apply Array.ext';simp only[Array.toList_append,Array.toList_extract,List.extract_eq_take_drop,List.drop_zero,Nat.sub_zero,List.size_toArray];rw[List.take_of_length_le (l:=List.drop (o+vs.length) _) (by rw[List.length_drop];exact Nat.le_refl _)]
theorem p1O {α:Type} {f:α→List Value} {size:Nat} (hf: ∀x,(f x).length=size) (z:α): ∀ {l:List α} {i:Nat} (_:i<l.length),(l.flatMap f).take (i*size)++f z++(l.flatMap f).drop (i*size+size)=(l.set i z).flatMap f
 |x::l,0,_=>by
  rw[Nat.zero_mul,List.take_zero,List.nil_append,Nat.zero_add,List.set_cons_zero,List.flatMap_cons,List.flatMap_cons,List.drop_left' (hf x)]
 |x::l,i+1,h=>by
  have ih:=p1O hf z (l:=l) (i:=i) (by simpa using h);rw[List.set_cons_succ,List.flatMap_cons,List.flatMap_cons,←ih];rw[show(i+1)*size=(f x).length+i*size by rw[hf,Nat.succ_mul];omega,List.take_length_add_append,Nat.add_assoc,List.drop_length_add_append];simp only[List.append_assoc]
variable {ops:Array Oper} {rest:List Oper}
theorem n1X {t:TypeId} {x y:Operand} {b o n k cap size:Nat} {e:TypeId} {xs xs' vs:List Value}
 (ht:x0O c.P t (k)=true) (hx:evo env x=some (.pointer (some ⟨b,o,none⟩))) (hy:evo env y=some (.agg vs.toArray)) (hk:vs.length=k) (h1: ∀u∈vs,u.oneCell'=true)
 (hL:Fnd L (b0I e size (.slice (some ⟨b,0,none⟩) n cap) n xs) M) (ho:o+k≤xs.length) (hc:xs.take o++vs++xs.drop (o+k)=xs')
 (h:OW c ops Q rest env (b0I e size (.slice (some ⟨b,0,none⟩) n cap) n xs'::M)):OW c ops Q (⟨none,.store t x y,ty,pos,af,none⟩::rest) env L:=by
 intro a w hh;obtain⟨hl,hcase⟩:=f0O (hL.sat hh.sat);rcases hcase with ⟨h0,_⟩| ⟨b',cap',cur,h0,g1,g2,g3,g4,hs⟩
 ·cases h0
 ·simp only[Value.slice.injEq,Option.some.injEq,Addr.mk.injEq]at h0;obtain⟨⟨rfl,_,_⟩,_,rfl⟩:=h0;have hxl:xs.length≤cur.length:=by rw[←g4,List.length_take];exact Nat.min_le_right _ _
  refine a0M (c:=c) (L:=pts b (.cells cur.toArray e (0,0))::M) (M:=M) (cs':=(cur.take o++vs++cur.drop (o+k)).toArray) (hL:=⟨Fnd.here⟩) ht hx hy (by simpa using hk) (by simpa using h1) (by simp;omega) (by rw[y1G (by omega),hk]) (fun a w hh=> ?_) a w ⟨hh.size,hh.slots,hh.defers,hs,hh.like⟩;refine h a w ⟨hh.size,hh.slots,hh.defers,r0J hh.sat g1 g2 ?_ ?_,hh.like⟩
  ·rw[←g3,List.length_append,List.length_append,List.length_take,List.length_drop,hk];omega
  ·rw[←hc,←g4];have e1:(List.take (n*size) cur).take o=cur.take o:=by rw[List.take_take,Nat.min_eq_left (by omega)]
   have e2:(cur.take o++vs++cur.drop (o+k)).take (n*size)=cur.take o++vs++(cur.drop (o+k)).take (n*size- (o+k)):=by
    have hto:(cur.take o++vs).length=o+k:=by rw[List.length_append,List.length_take,hk];omega
    rw[List.take_append,hto,List.take_of_length_le (by omega)]
   rw[e1,e2,List.drop_take]
end
end
section
section
variable {c:Cx} {env:List (Nat×Value)} {L M:List a0E} {d:Option Tmp} {ty:TypeId} {pos:String} {af:Array Edge} {g:Option (Nat×Bool)}
theorem l1E {x:Operand} {t:TypeId} {k:Nat} {W:World} {p:Addr} {vs:List Value} (ht:o0N c.P t k=true) (hx:evo env x=some (.pointer (some p))) (hL:Fnd L (whole W) M) (hk:vs.length=k) (hc: ∀q u,vs[q]? =some u→W.cell? (p.add q)=some u):
 a0P c ⟨d,.load t x,ty,pos,af,g⟩ env L (.agg vs.toArray):=by
 intro a w hh;have hw: ∀q u,vs[q]? =some u→w.cell? (p.add q)=some u:=fun q u hq=>d2Q (hL.sat hh.sat) (hc q u hq);have hr:=run_loadCells_list (P:=c.P) (w:=w) p vs hw;rw[hk]at hr;simp[execOp,hh.eval hx,Instr.loadAt,Instr.sureAddr,loadVar,j0A ht,j0H ht,hr]
theorem d2Y {x y:Operand} {t yt:TypeId} {p q:Bool} (ht:(match c.P.underlying t with|some .bool=>true|_=>false)=true) (hx:evo env x=some (.bool p)) (hy:evo env y=some (.bool q)):
 a0P c ⟨d,.binOp .neq t x y yt,ty,pos,af,g⟩ env L (.bool (p !=q)):=by
 intro a w h;split at ht
 ·rename_i hu;have e:(binOp .neq t (.bool p) (.bool q)).run c.P w= .ok (.bool (p !=q)) w:=by
   have e1:binOp .neq t (.bool p) (.bool q)=(do pure (.bool (!(←Op.equalIn (9999+1) t (.bool p) (.bool q))))):=rfl;rw[e1];rw[Sem.run_bind,run_equalIn_bool hu];rfl
  simp[execOp,h.eval hx,h.eval hy,eqGuard_at_bool,e]
 ·cases ht
end
end
section
def w32 (x:BitVec 32):Value:= .int .u32 (x.toNat:Int)
theorem p1P (a b:BitVec 32):bits .xor .u32 (a.toNat:Int) (b.toNat:Int)=((a ^^^ b).toNat:Int):=by
 simp only[bits,BitVec.ofInt_natCast,BitVec.ofNat_toNat,BitVec.setWidth_eq,IntKind.bits];rw[IntKind.wrap_u32];exact Int.emod_eq_of_lt (Int.natCast_nonneg _) (by have:=(a ^^^ b).isLt;omega)
theorem i2U (a b:BitVec 32):bits .and .u32 (a.toNat:Int) (b.toNat:Int)=((a &&& b).toNat:Int):=by
 simp only[bits,BitVec.ofInt_natCast,BitVec.ofNat_toNat,BitVec.setWidth_eq,IntKind.bits];rw[IntKind.wrap_u32];exact Int.emod_eq_of_lt (Int.natCast_nonneg _) (by have:=(a &&& b).isLt;omega)
theorem o2I (a b:BitVec 32):bits .or .u32 (a.toNat:Int) (b.toNat:Int)=((a ||| b).toNat:Int):=by
 simp only[bits,BitVec.ofInt_natCast,BitVec.ofNat_toNat,BitVec.setWidth_eq,IntKind.bits];rw[IntKind.wrap_u32];exact Int.emod_eq_of_lt (Int.natCast_nonneg _) (by have:=(a ||| b).isLt;omega)
section
variable {c:Cx} {env:List (Nat×Value)} {L:List a0E} {d:Option Tmp} {ty:TypeId} {pos:String} {af:Array Edge} {g:Option (Nat×Bool)} {x y:Operand} {t yt:TypeId} {X Y:BitVec 32}
theorem q0Q (hx:evo env x=some (w32 X)) (hy:evo env y=some (w32 Y)):a0P c ⟨d,.binOp .xor t x y yt,ty,pos,af,g⟩ env L (w32 (X ^^^ Y)):=by
 unfold w32;rw[←p1P];exact w0I hx hy
theorem e1E (hx:evo env x=some (w32 X)) (hy:evo env y=some (w32 Y)):a0P c ⟨d,.binOp .and t x y yt,ty,pos,af,g⟩ env L (w32 (X &&& Y)):=by
 unfold w32;rw[←i2U];exact o0O hx hy
theorem s1C (hx:evo env x=some (w32 X)) (hy:evo env y=some (w32 Y)):a0P c ⟨d,.binOp .or t x y yt,ty,pos,af,g⟩ env L (w32 (X ||| Y)):=by
 unfold w32;rw[←o2I];exact n2N hx hy
theorem q0R (hx:evo env x=some (w32 X)) (hy:evo env y=some (w32 Y)):a0P c ⟨d,.binOp .add t x y yt,ty,pos,af,g⟩ env L (w32 (X+Y)):=by
 have e:((X+Y).toNat:Int)=IntKind.u32.wrap ((X.toNat:Int)+(Y.toNat:Int)):=by rw[IntKind.wrap_u32,BitVec.toNat_add];omega
 unfold w32;rw[e];exact g1D hx hy
theorem x2I (hx:evo env x=some (w32 X)):a0P c ⟨d,.unOp .xor t x,ty,pos,af,g⟩ env L (w32 (~~~ X)):=by
 have h:(if IntKind.u32.signed then -1 else IntKind.u32.max)=((BitVec.allOnes 32).toNat:Int):=by decide
 have e:(~~~ X)=BitVec.allOnes 32 ^^^ X:=by rw[BitVec.xor_comm];exact BitVec.xor_allOnes.symm
 have:=d2K (c:=c) (env:=env) (L:=L) (d:=d) (t:=t) (ty:=ty) (pos:=pos) (af:=af) (g:=g) (x:=x) (k:= .u32) hx;rw[h,p1P,←e]at this;exact this
theorem l1F {j:IntKind} {n:Nat} (hx:evo env x=some (w32 X)) (hy:evo env y=some (.int j (n:Int))) (hn:n≤32):a0P c ⟨d,.binOp .shr t x y yt,ty,pos,af,g⟩ env L (w32 (X >>> n)):=by
 have e:((X >>> n).toNat:Int)=(X.toNat:Int)/2^((n:Int)).toNat:=by
  rw[BitVec.toNat_ushiftRight,Nat.shiftRight_eq_div_pow,Int.toNat_natCast];norm_cast
 unfold w32;rw[e];exact t0B hx hy ⟨by omega,by simp only[IntKind.bits];omega⟩
theorem l1G {j:IntKind} {n:Nat} (hx:evo env x=some (w32 X)) (hy:evo env y=some (.int j (n:Int))) (hn:n≤32):a0P c ⟨d,.binOp .shl t x y yt,ty,pos,af,g⟩ env L (w32 (X <<< n)):=by
 have e:((X <<< n).toNat:Int)=IntKind.u32.wrap ((X.toNat:Int)*2^((n:Int)).toNat):=by
  rw[BitVec.toNat_shiftLeft,Nat.shiftLeft_eq,Int.toNat_natCast,IntKind.wrap_u32];have:((X.toNat:Int)*2^n)=((X.toNat*2^n:Nat):Int):=by norm_cast
  rw[this];omega
 unfold w32;rw[e];exact g1E hx hy ⟨by omega,by simp only[IntKind.bits];omega⟩
theorem g1N {ts tt:TypeId} {b:UInt8} (hs:(c.P.underlying ts).isSome=true) (ht:y0U c.P tt .u32=true) (hx:evo env x=some (.int .u8 (b.toNat:Int))):a0P c ⟨d,.convert ts tt x,ty,pos,af,g⟩ env L (w32 (b.toBitVec.setWidth 32)):=by
 have e:((b.toBitVec.setWidth 32).toNat:Int)=IntKind.u32.wrap (b.toNat:Int):=by
  rw[IntKind.wrap_u32,BitVec.toNat_setWidth];have h:=b.toNat_lt;have e:b.toBitVec.toNat=b.toNat:=rfl;rw[e];omega
 unfold w32;rw[e];exact k1R hs ht hx
theorem d2Z {ts tt:TypeId} (hs:(c.P.underlying ts).isSome=true) (ht:y0U c.P tt .u8=true) (hx:evo env x=some (w32 X)):a0P c ⟨d,.convert ts tt x,ty,pos,af,g⟩ env L (.int .u8 (((⟨X.setWidth 8⟩:UInt8).toNat:Nat):Int)):=by
 have e:(((⟨X.setWidth 8⟩:UInt8).toNat:Nat):Int)=IntKind.u8.wrap (X.toNat:Int):=by
  have e:(⟨X.setWidth 8⟩:UInt8).toNat=(X.setWidth 8).toNat:=rfl;rw[e,IntKind.wrap_u8,BitVec.toNat_setWidth];omega
 rw[e];exact k1R hs ht hx
end
theorem i2V (X:BitVec 32) (k:Nat) (h:k<32):X <<< (32-k) ||| X >>> k=X.rotateRight k:=by
 rw[BitVec.rotateRight_def,Nat.mod_eq_of_lt h,BitVec.or_comm]
theorem i2W {c:Cx} {env:List (Nat×Value)} {L M:List a0E} {dd:Option Tmp} {ty:TypeId} {pos:String} {af:Array Edge} {g:Option (Nat×Bool)} {x:Operand} {t:TypeId} {W:World} {gl n:Nat} {name:String} {cs:Array Value}
 (ht:o0N c.P t n=true) (hx:evo env x=some (.pointer (some ⟨gl,0,none⟩))) (hL:Fnd L (whole W) M) (hg:c.P.globalNamed name=some gl) (hv:W.var? c.P name=some cs) (hn:cs.size=n):
 a0P c ⟨dd,.load t x,ty,pos,af,g⟩ env L (.agg cs):=by
 intro a w h;have hW: ∃e fr,w.heap[gl]? =some (.cells cs e fr):=by
  unfold World.var? at hv;rw[hg]at hv;simp only[Option.bind_some]at hv;split at hv
  ·rename_i cs' e fr he;cases hv
   have hlt:gl<W.heap.size:=by
    rcases Nat.lt_or_ge gl W.heap.size with h|h
    ·exact h
    ·rw[Array.getElem?_eq_none h]at he;cases he
   exact⟨e,fr,by rw[(hL.sat h.sat).whole_block gl hlt];exact he⟩
  ·cases hv
 obtain⟨e,fr,hh⟩:=hW;have e1:(loadVar t ⟨gl,0,none⟩).run c.P w= .ok (.agg cs) w:=by
  simp only[loadVar,Sem.run_bind,j0A ht,j0H ht,Result.andThen_ok,if_true];rw[g0U hh (by omega)];have:cs.extract 0 (0+n)=cs:=by apply Array.ext';simp[←hn]
  rw[this];rfl
 simp[execOp,h.eval hx,Instr.loadAt,Instr.sureAddr,e1]
end
section
def i32 (x:BitVec 32):Value:= .int .i64 (x.toNat:Int)
theorem t2L (a b:Nat) (ha:a<9223372036854775808) (hb:b<9223372036854775808):bits .and .i64 (a:Int) (b:Int)=((a &&& b:Nat):Int):=by
 have h:a &&& b<2^63:=Nat.lt_of_le_of_lt Nat.and_le_left (by simpa using ha);have e1:a%2^IntKind.i64.bits=a:=Nat.mod_eq_of_lt (by simp only[IntKind.bits];omega);have e2:b%2^IntKind.i64.bits=b:=Nat.mod_eq_of_lt (by simp only[IntKind.bits];omega);simp only[bits,BitVec.ofInt_natCast,BitVec.toNat_and,BitVec.toNat_ofNat,e1,e2];exact e0P .i64 _ (Int.natCast_nonneg _) (Int.ofNat_lt.2 h)
theorem x2J (a b:Nat) (ha:a<9223372036854775808) (hb:b<9223372036854775808):bits .or .i64 (a:Int) (b:Int)=((a ||| b:Nat):Int):=by
 have h:a ||| b<2^63:=Nat.or_lt_two_pow (by simpa using ha) (by simpa using hb);have e1:a%2^IntKind.i64.bits=a:=Nat.mod_eq_of_lt (by simp only[IntKind.bits];omega);have e2:b%2^IntKind.i64.bits=b:=Nat.mod_eq_of_lt (by simp only[IntKind.bits];omega);simp only[bits,BitVec.ofInt_natCast,BitVec.toNat_or,BitVec.toNat_ofNat,e1,e2];exact e0P .i64 _ (Int.natCast_nonneg _) (Int.ofNat_lt.2 h)
theorem n1Y (x:BitVec 32):x.toNat<9223372036854775808:=by have:=x.isLt;omega
section
variable {c:Cx} {env:List (Nat×Value)} {L:List a0E} {d:Option Tmp} {ty:TypeId} {pos:String} {af:Array Edge} {g:Option (Nat×Bool)} {x y:Operand} {t yt:TypeId} {X Y:BitVec 32}
theorem v0P (hx:evo env x=some (i32 X)) (hy:evo env y=some (i32 Y)):a0P c ⟨d,.binOp .xor t x y yt,ty,pos,af,g⟩ env L (i32 (X ^^^ Y)):=by
 unfold i32;rw[BitVec.toNat_xor,←t2F _ _ (n1Y X) (n1Y Y)];exact w0I hx hy
theorem e1F (hx:evo env x=some (i32 X)) (hy:evo env y=some (i32 Y)):a0P c ⟨d,.binOp .and t x y yt,ty,pos,af,g⟩ env L (i32 (X &&& Y)):=by
 unfold i32;rw[BitVec.toNat_and,←t2L _ _ (n1Y X) (n1Y Y)];exact o0O hx hy
theorem e2A (hx:evo env x=some (i32 X)) (hy:evo env y=some (i32 Y)):a0P c ⟨d,.binOp .or t x y yt,ty,pos,af,g⟩ env L (i32 (X ||| Y)):=by
 unfold i32;rw[BitVec.toNat_or,←x2J _ _ (n1Y X) (n1Y Y)];exact n2N hx hy
theorem s1Z {j:IntKind} {n:Nat} (hx:evo env x=some (i32 X)) (hy:evo env y=some (.int j (n:Int))) (hn:n≤32):a0P c ⟨d,.binOp .shr t x y yt,ty,pos,af,g⟩ env L (i32 (X >>> n)):=by
 have e:((X >>> n).toNat:Int)=(X.toNat:Int)/2^((n:Int)).toNat:=by
  rw[BitVec.toNat_ushiftRight,Nat.shiftRight_eq_div_pow,Int.toNat_natCast];norm_cast
 unfold i32;rw[e];exact t0B hx hy ⟨by omega,by simp only[IntKind.bits];omega⟩
theorem x2K {j:IntKind} {n:Nat} (hx:evo env x=some (i32 X)) (hy:evo env y=some (.int j (n:Int))) (hn:n≤31):a0P c ⟨d,.binOp .shl t x y yt,ty,pos,af,g⟩ env L (.int .i64 ((X.toNat*2^n:Nat):Int)):=by
 have h1:X.toNat*2^n<4294967296*2147483648:=by
  have h2:2^n≤2^31:=Nat.pow_le_pow_right (by decide) hn;have h3:=X.isLt;have h4:X.toNat*2^n≤X.toNat*2^31:=Nat.mul_le_mul_left _ h2;omega
 have e:((X.toNat*2^n:Nat):Int)=IntKind.i64.wrap ((X.toNat:Int)*2^((n:Int)).toNat):=by
  have h5:((X.toNat:Int)*2^((n:Int)).toNat)=((X.toNat*2^n:Nat):Int):=by rw[Int.toNat_natCast];norm_cast
  rw[h5];exact(e0P .i64 _ (Int.natCast_nonneg _) (Int.ofNat_lt.2 (by simp only[IntKind.bits];omega))).symm
 rw[e];exact g1E hx hy ⟨by omega,by simp only[IntKind.bits];omega⟩
theorem x2L (hx:evo env x=some (i32 X)):a0P c ⟨d,.binOp .sub t (.const (.int .i64 4294967295)) x yt,ty,pos,af,g⟩ env L (i32 (~~~ X)):=by
 have e:((~~~ X).toNat:Int)=IntKind.i64.wrap ((4294967295:Int)- (X.toNat:Int)):=by
  have h:=X.isLt;rw[e0P .i64 _ (by omega) (by
   have:((2^(IntKind.i64.bits-1):Nat):Int)=9223372036854775808:=by decide
   omega)]
  rw[BitVec.toNat_not];omega
 unfold i32;rw[e];exact k1O rfl hx
end
theorem t2M (X:BitVec 32) (n:Nat):((X.toNat*2^n:Nat):Int)%4294967296=((X <<< n).toNat:Int):=by
 rw[BitVec.toNat_shiftLeft,Nat.shiftLeft_eq];omega
theorem o2J (E F G:BitVec 32):((E &&& F).toNat:Int)+((~~~E &&& G).toNat:Int)=((E &&& F ^^^ ~~~E &&& G).toNat:Int):=by
 have h1:(E &&& F) &&& (~~~E &&& G)=0#32:=by
  apply BitVec.eq_of_getLsbD_eq;intro i hi;simp only[BitVec.getLsbD_and,BitVec.getLsbD_not,BitVec.getLsbD_zero];cases E.getLsbD i<;>simp
 have h2:(E &&& F) ^^^ (~~~E &&& G)=(E &&& F) ||| (~~~E &&& G):=by
  apply BitVec.eq_of_getLsbD_eq;intro i hi;simp only[BitVec.getLsbD_xor,BitVec.getLsbD_or,BitVec.getLsbD_and,BitVec.getLsbD_not];cases E.getLsbD i<;>simp
 rw[h2,←BitVec.add_eq_or_of_and_eq_zero _ _ h1,BitVec.toNat_add];have h3:(E &&& F).toNat+(~~~E &&& G).toNat<2^32:=by
  have h4:(E &&& F).toNat≤E.toNat:=by rw[BitVec.toNat_and];exact Nat.and_le_left
  have h5:(~~~E &&& G).toNat≤(~~~E).toNat:=by rw[BitVec.toNat_and];exact Nat.and_le_left
  have h6:(~~~E).toNat=2^32-1-E.toNat:=BitVec.toNat_not;have:=E.isLt;omega
 rw[Nat.mod_eq_of_lt h3];norm_cast
theorem x2M (A B C:BitVec 32):(A &&& B ||| A &&& C ||| B &&& C)=(A &&& B ^^^ A &&& C ^^^ B &&& C):=by
 apply BitVec.eq_of_getLsbD_eq;intro i hi;simp only[BitVec.getLsbD_xor,BitVec.getLsbD_or,BitVec.getLsbD_and];cases A.getLsbD i<;>cases B.getLsbD i<;>cases C.getLsbD i<;>rfl
end
end Go.Sl
namespace Go.Sl
open Go.BigFrame
section
theorem e2B {w:World} {g n:Nat} {cs:Array Value} {e:TypeId} (h:w.heap[g]? =some (.cells cs e (0,0))) (hn:n≠0):w.freeze ⟨g,0,none⟩ n=Sl.put w g (.cells cs e (0,n)):=by
 have hlt:=r0F h;unfold World.freeze Sl.put;rw[if_neg hn];congr 1;apply Array.ext';apply List.ext_getElem?;intro i;simp only[Array.getElem?_toList,Array.getElem?_modify,Array.getElem?_setIfInBounds];by_cases e0:g=i
 ·subst e0;have hg:w.heap[g]'hlt= .cells cs e (0,0):=by rw[Array.getElem?_eq_getElem hlt]at h;exact Option.some.inj h
  simp[h,hlt,hg]
 ·simp[e0]
theorem h1N {w:World} {b:Nat} {cs:Array Value} {e:TypeId} {fr:Nat×Nat} {v:Value} (h:w.heap[b]? =some (.cells cs e fr)):w.setCell ⟨b,0,none⟩ v=Sl.put w b (.cells (cs.setIfInBounds 0 v) e fr):=by
 have hlt:=r0F h;unfold World.setCell Sl.put;congr 1;apply Array.ext';apply List.ext_getElem?;intro i;simp only[Array.getElem?_toList,Array.getElem?_modify,Array.getElem?_setIfInBounds];by_cases e0:b=i
 ·subst e0;have hg:w.heap[b]'hlt= .cells cs e fr:=by rw[Array.getElem?_eq_getElem hlt]at h;exact Option.some.inj h
  simp[h,hlt,hg]
 ·simp[e0]
section
variable {c:Cx} {ops:Array Oper} {Q:Exit→Act→World→Prop} {rest:List Oper} {env:List (Nat×Value)} {L M:List a0E}
 {d:Tmp} {ty:TypeId} {pos:String} {af:Array Edge} {g:Option (Nat×Bool)} {dd:Option Tmp}
theorem y1H {t:TypeId} {x:Operand} {a:Addr} {n cp:Nat} (hx:evo env x=some (.slice (some a) n cp)) (hc:cp≠0):
 a0P c ⟨dd,.call {callee:= .builtin .unsafeSliceData,args:= #[x],argTypes:= #[t]},ty,pos,af,g⟩ env L (.pointer (some a)):=by
 intro a' w h;rw[execOp_builtin,builtin_unsafeSliceData];have e1:(#[x]:Array Operand).map a'.eval= #[.slice (some a) n cp]:=by simp[h.eval hx]
 rw[e1,Sem.run_bind,Lib.run_unsafeSliceData_row (P:=c.P) w #[t] ty a n cp hc];rfl
theorem t1A {t:TypeId} {x:Operand} {n cp:Nat} (hx:evo env x=some (.slice none n cp)):
 a0P c ⟨dd,.call {callee:= .builtin .unsafeSliceData,args:= #[x],argTypes:= #[t]},ty,pos,af,g⟩ env L (.pointer none):=by
 intro a' w h;rw[execOp_builtin,builtin_unsafeSliceData];have e1:(#[x]:Array Operand).map a'.eval= #[.slice none n cp]:=by simp[h.eval hx]
 rw[e1,Sem.run_bind,Lib.run_unsafeSliceData_nil (P:=c.P) w #[t] ty n cp];rfl
theorem l1H {pt it:TypeId} {x y:Operand} {p:Option Addr} (hx:evo env x=some (.pointer p)) (hy:evo env y=some (.int .i64 0)):
 a0P c ⟨dd,.call {callee:= .builtin .unsafeString,args:= #[x,y],argTypes:= #[pt,it]},ty,pos,af,g⟩ env L (.string ByteArray.empty):=by
 intro a' w h;rw[execOp_builtin,builtin_unsafeString];have:=Lib.run_unsafeString_none (P:=c.P) w pt it ty p;simp[h.eval hx,h.eval hy,this]
theorem l1I {pt it e:TypeId} {x y:Operand} {gb cap n:Nat} {l:List UInt8} (hp:c.P.underlying pt=some (.pointer e)) (hc:c.P.cellsOf e=1) (hx:evo env x=some (.pointer (some ⟨gb,0,none⟩))) (hy:evo env y=some (.int .i64 n)) (hn:n=l.length)
 (hL:Fnd L (b0I e 1 (.slice (some ⟨gb,0,none⟩) n cap) n (l.map a0Q)) M) (h0:l≠ []) (hl:l.length≤1000000000)
 (h:OW c ops Q rest ((d,.string ⟨l.toArray⟩)::env) M) (hd:Nat.blt d c.n=true:=by rfl):
 OW c ops Q (⟨some d,.call {callee:= .builtin .unsafeString,args:= #[x,y],argTypes:= #[pt,it]},ty,pos,af,none⟩::rest) env L:=by
 intro a w hh;subst hn;have hsat:=hL.sat hh.sat;obtain⟨_,hcase⟩:=f0O hsat;rcases hcase with ⟨h1,_⟩| ⟨b',cap',cur,h1,g1,g2,g3,g4,hs⟩
 ·cases h1
 simp only[Value.slice.injEq,Option.some.injEq,Addr.mk.injEq]at h1;obtain⟨⟨rfl,_,_⟩,_,rfl⟩:=h1;have hb:=hs.pts;have hn0:l.length≠0:=by simpa using h0
 have hr:=Lib.run_unsafeString_row (P:=c.P) w pt it ty e hp hc gb cur.length (by simp[World.shape?,hb]) l h0 (by omega) (by omega) (fun j u hj=>by
  have hj1:j<l.length:=(List.getElem?_eq_some_iff.1 hj).1;have h2:(cur.take (l.length*1))[j]? =(l.map a0Q)[j]? :=by rw[g4]
  rw[List.getElem?_take_of_lt (by omega),List.getElem?_map,hj]at h2;simp[World.cell?,j0C,hb,h2,a0Q])
 rw[e2B hb hn0]at hr;refine wpList_plain rfl fun K hK=> ?_;unfold Oper.wp;rw[execOp_builtin,builtin_unsafeString];have e1:(#[x,y]:Array Operand).map a.eval= #[.pointer (some ⟨gb,0,none⟩),.int .i64 l.length]:=by simp[hh.eval hx,hh.eval hy]
 rw[e1];simp only[Sem.run_bind,hr,Result.andThen_ok,Sem.run_pure,Oper.upon];exact hK _ _ (h _ _ ((⟨hh.size,hh.slots,hh.defers,(hs.put (o':= .cells cur.toArray e (0,l.length))).tail,hh.like.put _ _⟩:b0J c env M a _).put d _ hd))
end
end
end Go.Sl
namespace Go.Sl
open Go.Sb
open Go.WideMaps
theorem t1B {α β:Type} {f:α→Option β} {g:α→β} : ∀ {l:List α},(∀x∈l,f x=some (g x))→l.mapM f=some (l.map g)
 | [],_=>rfl
 |x::l,h=>by
  rw[List.mapM_cons,h x (by simp),t1B (l:=l) fun y hy=>h y (by simp[hy])];rfl
theorem o2K (b:UInt8):(Lit.int .u8 (b.toNat:Int)).wf=true:=by
 have:=b.toNat_lt;simp only[Lit.wf,IntKind.min,IntKind.max,IntKind.bits,IntKind.signed,Bool.and_eq_true,decide_eq_true_eq];simp;omega
def x0U (P:Program) (k n e:Nat):Bool:=k0Y P k n e 1&&(b1I P e&&(P.keyType k&&(P.cellsOf k == n&&(P.cellsOf e == 1&&(!(P.types.size == 0)&&(P.keyTypeAt 2 k&&P.tiled 2 k))))))
theorem y0Z {P:Program} {k n e:Nat} (ht:x0U P k n e=true) {x:B} (hx:x.length=n): ∃l,keyOf P k (.agg (x.map a0Q).toArray)=some l:=by
 simp only[x0U,Bool.and_eq_true,beq_iff_eq,Bool.not_eq_true',beq_eq_false_iff_ne]at ht;obtain⟨h1,h2,h3,h4,h5,h6,_⟩:=ht;obtain⟨m,hm⟩: ∃m,P.types.size=m+1:=⟨P.types.size-1,by omega⟩;simp only[k0Y,Bool.and_eq_true]at h1;obtain⟨h1,_⟩:=h1;split at h1
 case h_2=>cases h1
 rename_i l e' hu;simp only[Bool.and_eq_true,beq_iff_eq]at h1;obtain⟨rfl,rfl⟩:=h1;unfold b1I at h2;split at h2
 case h_2=>cases h2
 rename_i hue;have hl:((List.range l).mapM fun i=>P.keyLits (m+1) e' (((x.map a0Q).drop (i*1)).take 1))=some ((List.range l).map fun i=> [Lit.int .u8 ((x.getD i 0).toNat:Int)]):=by
  refine t1B fun i hi=> ?_;have hi':=List.mem_range.1 hi;have e1:((x.map a0Q).drop (i*1)).take 1= [a0Q (x.getD i 0)]:=by
   rw[Nat.mul_one,List.take_one,List.head?_drop,List.getElem?_map,List.getElem?_eq_getElem (by omega)];simp[List.getD_eq_getElem?_getD,List.getElem?_eq_getElem (show i<x.length by omega)]
  rw[e1];simp[Program.keyLits,hue,a0Q,o2K]
 refine⟨.string (keyBytes ((List.range l).map fun i=> [Lit.int .u8 ((x.getD i 0).toNat:Int)]).flatten),?_⟩;unfold keyOf;rw[hu];have hf:(Value.agg (x.map a0Q).toArray).formed P k=true:=by
  simp[Value.formed,hu,h4,hx]
 simp only[h3,hf,Bool.and_self,if_true];rw[hm];unfold Program.keyLits;rw[hu];simp only[Value.cells,h4,h5,List.length_map,hx,hl,if_true,Option.map_some]
theorem i2X {x y:B} (h:x.map a0Q=y.map a0Q):x=y:=by
 induction x generalizing y with
 |nil=>cases y with
  |nil=>rfl
  |cons b y=>simp at h
 |cons a x ih=>
  cases y with
  |nil=>simp at h
  |cons b y=>
   simp only[List.map_cons,List.cons.injEq,a0Q,Value.int.injEq,true_and]at h;rw[ih h.2,show a=b from UInt8.toNat_inj.1 (by omega)]
theorem o2L {P:Program} {k n e:Nat} (ht:x0U P k n e=true):w0C P k (fun l:B=> .agg (l.map a0Q).toArray) (fun l=>l.length=n):=by
 have ht':=ht;simp only[x0U,Bool.and_eq_true,beq_iff_eq,Bool.not_eq_true',beq_eq_false_iff_ne]at ht;obtain⟨h1,h2,h3,h4,h5,h6,h7,h8⟩:=ht;have hw:(match P.underlying k with|some (.array _ _)|some (.struct _)=>true|_=>false)=true:=by
  simp only[k0Y,Bool.and_eq_true]at h1;obtain⟨h1,_⟩:=h1;split at h1
  ·rename_i h;rw[h]
  ·cases h1
 have law:=deep_law (P:=P) (m:=2) (by omega) h7 h8 hw;refine⟨fun w em x hx=> ?_,fun w x m hx hm=> ?_,fun w x hx=> ?_⟩
 ·obtain⟨l,hl⟩:=y0Z ht' hx;exact law.check w em hl
 ·obtain⟨lx,hlx⟩:=y0Z ht' hx;have hun: ∃td,P.underlying k=some td∧ ∀es,Instr.findNow td (.agg (x.map a0Q).toArray) es 0=(match es with| []=>some none|_=>none):=by
   simp only[k0Y,Bool.and_eq_true]at h1;obtain⟨h1,_⟩:=h1;split at h1
   ·rename_i h;exact⟨_,h,fun es=>by cases es<;>simp[Instr.findNow,Instr.sameNow]⟩
   ·cases h1
  obtain⟨td,hu,hfn⟩:=hun;have hask: ∀(m:List (B×MapEntry)),(∀p∈m,p.1.length=n∧p.2.key= .agg (p.1.map a0Q).toArray)→ ∀i,(Instr.findAsking k (.agg (x.map a0Q).toArray) (m.map (·.2)) i).run P w= .ok ((m.findIdx? (fun p=>decide (p.1=x))).bind fun j=>(m[j]?).map fun p=>(j+i,p.2.val)) w:=by
   intro m
   induction m with
   |nil=>intro _ i;simp[Instr.findAsking]
   |cons p m ih=>
    intro hm i;obtain⟨hp1,hp2⟩:=hm p (by simp);obtain⟨lp,hlp⟩:=y0Z ht' hp1;obtain⟨r,hr,hiff⟩:=run_equal_deep (P:=P) w (m:=2) (by omega) h7 hw hlx hlp;have hrx:r=decide (p.1=x):=by
     by_cases e:p.1=x
     ·simp only[e,decide_true];rw[e]at hlp;exact hiff.2 (Option.some.inj (hlx.symm.trans hlp))
     ·simp only[e,decide_false];cases hrb:r with
      |false=>rfl
      |true=>
       exfalso;have h9:=hiff.1 hrb;rw[←h9]at hlp;have h10:=law.inj hlx hlp;simp only[Value.agg.injEq]at h10;exact e (i2X (by simpa using congrArg Array.toList h10)).symm
    simp only[List.map_cons,Instr.findAsking,hp2,Sem.run_bind,hr,Result.andThen_ok,List.findIdx?_cons];by_cases e:p.1=x
    ·simp[hrx,e]
    ·simp only[hrx,e,decide_false,Bool.false_eq_true,if_false];rw[ih (fun q hq=>hm q (by simp[hq])) (i+1)];cases m.findIdx? (fun p=>decide (p.1=x))with
     |none=>simp
     |some j=>
      simp only[Option.bind_some,Option.map_some,List.getElem?_cons_succ];rw[show j+(i+1)=j+1+i by omega]
  simp only[Instr.findKey,Sem.run_bind,run_underlying hu,Result.andThen_ok,hfn];cases m with
  |nil=>simp
  |cons p m=>
   simp only[List.map_cons];exact hask (p::m) hm 0
 ·obtain⟨l,hl⟩:=y0Z ht' hx;exact law.stays w hl
end Go.Sl

/- Part of the proof; no statement of its own. -/
import Derived.Test.YtpinhnikemamjaaGreatDoorD19
import Derived.Test.YtpinhnikemamjaaGreatDoorD24
import Derived.Test.YtpinhnikemamjaaGreatDoorD25
set_option linter.all false
set_option maxRecDepth 4000
set_option maxHeartbeats 4000000
attribute [local irreducible] Go.Sl.a0P Go.Sl.OW Go.Sl.CW Go.Sl.OS Go.Sl.OM Go.Sl.OMf Go.Sl.KM
namespace Go.Proofs.Q
open Go.Sl Go.Sb Tryz
section
theorem w1E {s:St} (k:B) (h:s.log.length<1000000000):h0O k s=(.ok (),{s with log:=bk s.depth s.log (.index k (a0C k s.index)),index:=b0D k s.index}):=by
 simp[h0O,a0B,back,show ¬1000000000≤s.log.length by omega]
theorem z1M {s:St} (k:B) (v:Int) (h:s.log.length<1000000000):f0F k v s=(.ok (),{s with log:=bk s.depth s.log (.index k (a0C k s.index)),index:=b0O k v s.index}):=by
 simp[f0F,a0B,back,show ¬1000000000≤s.log.length by omega]
def PB {α:Type} (m:M α):Prop:= ∀s,(m s).2.bits=s.bits
theorem b0L {α β:Type} {m:M α} {f:α→M β} (h:PB m) (c: ∀a,PB (f a)):PB (a0B m f):=fun s=>by
 unfold a0B;have b:=h s;cases e:m s with
 |mk o t=>
  rw[e]at b;cases o with
  |ok a=>exact(c a t).trans b
  |err e=>exact b
  |big=>exact b
theorem c0V {α:Type} (a:α):PB (ret a:M α):=fun _=>rfl
theorem o1S (st:c0U):PB (back st):=fun s=>by unfold back;split<;>rfl
theorem m1M {α:Type} {m:St→M α} (h: ∀s,PB (m s)):PB (fun s=>m s s):=fun s=>h s s
theorem s0W (st:St→c0U) (f:St→St) (a: ∀s,(f s).bits=s.bits):PB (a0B (fun s=>back (st s) s) fun _ s=>(.ok (),f s)):=b0L (m1M (m:=fun s=>back (st s)) fun _=>o1S _) fun _ s=>a s
theorem c1Z (k v:Int):PB (h0I k v):=s0W _ (fun s=> {s with refs:=b0O k v s.refs}) fun _=>rfl
theorem z1N (k:Int):PB (l0B k):=s0W _ (fun s=> {s with refs:=b0D k s.refs}) fun _=>rfl
theorem z1O (k v:Int):PB (m0E k v):=s0W _ (fun s=> {s with young:=b0O k v s.young}) fun _=>rfl
theorem w1F (k:Int):PB (f0M k):=s0W _ (fun s=> {s with young:=b0D k s.young}) fun _=>rfl
theorem g2A (l:List Int):PB (h0X l):=fun s=>by
 unfold h0X;split
 ·rfl
 ·exact s0W (fun s=> .gone s.gone) (fun s=> {s with gone:=l}) (fun _=>rfl) s
theorem u0S (k:Int):PB (e0G k):=fun s=>by
 unfold e0G;split
 ·rfl
 ·split
  ·rfl
  ·split
   ·refine b0L (z1N k) (fun _=>b0L (fun s=>o1S (.back k) {s with g:=mvL s.fr s.g k 1 2}) fun _=>b0L (fun s=> ?_) fun _=>c0V true) s;split
    ·exact b0L (w1F k) (fun _=>m1M (m:=fun s=>h0X (s.gone++ [k])) fun _=>g2A _) s
    ·rfl
   ·exact b0L (c1Z k _) (fun _=>c0V false) s
theorem v2M (f:Dk→Out Unit×Dk):PB (t0G f):=fun s=>by unfold t0G;cases f s.d;rfl
theorem s0X (b:B):PB (e0S b):=fun s=>by
 unfold e0S;split
 ·rfl
 ·exact b0L (fun s=>o1S _ {s with g:=h0M s.g}) (fun _=>b0L (c1Z _ _) fun _=>b0L (z1O _ _) fun _=>b0L (v2M _) fun _=>c0V _) s
def r0S (x:Hd) (l:List Int) (s:St):Out Unit×St:=a0B (d0V j0K l) (fun _ s=>h0O (key s.bits x.sum) s) s
section
variable {x:Hd} {k:Int} {l:List Int} {s t:St}
theorem l2D (h:(r0S x (k::l) s).1≠ .big) (c:0<k):(e0G k s).1≠ .big:=by
 have b:=c0I h;unfold d0V at b;have a:=c0I b;unfold j0K at a;rw[if_pos c]at a;exact c0I a
theorem l2E {e:Int} (a:0<k) (b:e0G k s=(.err e,t)):r0S x (k::l) s=(.err e,t):=by
 unfold r0S d0V;rw[a0F];rw[a0F];unfold j0K;rw[if_pos a,a0F b]
theorem q2M {b:Bool} (c:0<k) (d:e0G k s=(.ok b,t)):r0S x (k::l) s=r0S x l t:=by
 have a:j0K k s=(.ok (),t):=by unfold j0K;rw[if_pos c,a0A d];rfl
 unfold r0S
 conv=>lhs;unfold d0V
 unfold a0B;rw[a]
theorem g2B (b: ¬0<k):r0S x (k::l) s=r0S x l s:=by
 have a:j0K k s=(.ok (),s):=by unfold j0K;rw[if_neg b];rfl
 unfold r0S
 conv=>lhs;unfold d0V
 unfold a0B;rw[a]
theorem l2F:r0S x [] s=h0O (key s.bits x.sum) s:=by unfold r0S d0V;rw[a0A (show(ret ():M Unit) s=(.ok (),s)from rfl)]
theorem r1V {k:B} (h:(h0O k s).1≠ .big):s.log.length<1000000000:=t0W h fun a=>by simp[h0O,a0B,back,a]
end
theorem w1G {K V:Type} [DecidableEq K] {k:K} {p:K×V} : ∀ {m:List (K×V)},p∈b0D k m→p∈m
 | [],h=>h
 | (j,u)::m,h=>by
  unfold b0D at h;split at h
  ·exact List.mem_cons_of_mem _ h
  ·rcases List.mem_cons.1 h with h|h
   ·rw[h];exact List.mem_cons_self ..
   ·exact List.mem_cons_of_mem _ (w1G h)
theorem c2K {x:Hd} (a:z0I x):(hdL x).toArray.extract (0+8) (0+8+32)=(x.sum.map a0Q).toArray:=by
 rw[show hdL x=(x.at_.map a0H++(x.sums.map fun n:Nat=>Value.int .u32 n))++(x.sum.map a0Q++ []) by simp[hdL]];exact d0Y (by rw[List.length_append,List.length_map,List.length_map,a.n,a.m]) (by rw[List.length_map,a.sum])
set_option maxRecDepth 4000 in
theorem d1A (W:World) (a:Ad) (s:St) (at_:Int) (F:s.bits≤256) (k:(g0O at_ s).1≠ .big):a0G prog 196 #[ptr a.st,.int .i64 at_] (RS W a s) (Ran fT (RS W a) i0S (g0O at_ s)):=by
 by_cases D:at_=0
 ·subst D;rw[show g0O 0 s=(.ok (),s) by unfold g0O;rw[if_pos rfl];rfl];refine en func196 ntmps196 fun R w0=> ?_;refine go 8 ?_;exact rR idh rfl
 ·have e0:g0O at_ s=a0B (e0U at_) (fun x=>a0B (e0G at_) fun b=>if b then a0B (d0V j0K x.at_) fun _ s=>h0O (key s.bits x.sum) s else ret ()) s:=by unfold g0O;rw[if_neg D]
  refine en func196 ntmps196 fun R w0=> ?_;refine go 7 ?_;refine b0S rfl (by simpa using D) ?_;refine go 6 ?_;refine a0U rfl Hb.o rfl (t0Z W a s at_) gSp (fun x t f=> ?_) (fun e t f=>by refine pn ?_;exact kx ((by rw[e0];exact a0F f)));refine ns ?_;obtain⟨I,d⟩:=p0E f;rw[I]at f ⊢;rw[a0A f]at e0;have m:(hdL x).toArray.size=40:=by rw[List.size_toArray,u0Q d]
  have c1:(x.at_.map a0H).length=4:=by simp[d.n]
  have B:(e0G at_ s).1≠ .big:=by rw[e0]at k;exact c0I k
  refine al fun C=> ?_;refine a0M Sz.o rfl rfl m (b1A x) (by rw[m];simp[Value.cells]) (a0N (by rw[m];simp[Value.cells])) ?_;refine go 10 ?_;refine a0U rfl Hb.o rfl (c1U W a s at_ B) gSp (fun b t f=> ?_) (fun e t f=>by refine pn ?_;exact kx ((by rw[e0];exact a0F f)));refine ns ?_;have w:=f;rw[a0A w]at e0;refine go 3 ?_;refine a0O rfl (fun g=> ?_) (fun g=> ?_)
  ·have E:b=false:=by simpa using g
   exact rR idh (by rw[e0,E];rfl)
  ·have G:b=true:=by simpa using g
   have H:g0O at_ s=r0S x (x.at_.drop 0) t:=by rw[e0,G];rfl
   refine go 6 ?_;refine a0D (a0K Ag.o rfl (by show 0+0+4≤(hdL x).toArray.size;rw[m];omega) (d0Y (a:= []) rfl c1)) ?_;refine go 4 ?_;refine a0V (X:= {y:Nat×St // y.1≤4∧y.2.bits=s.bits∧g0O at_ s=r0S x (x.at_.drop y.1) y.2}) (fun y=> [(0,ptr a.st),(4,ptr C),(20,.agg (x.at_.map a0H).toArray),(21,.int .i64 y.1.1)]) (fun y=>RS W a y.1.2++ [pts C (.cells (hdL x).toArray 230 (0,0)),R]) (fun y=>4-y.1.1) ⟨(0,t),by omega,by have:=u0S at_ s;rw[w]at this;exact this,H⟩ gSu gSp ?_;rintro⟨⟨i,u⟩,hi,hub,he⟩ m0 hm0
   try simp only at hm0
   try dsimp only
   simp only at hi hub he;refine ns ?_;refine go 6 ?_;refine a0O rfl (fun h=> ?_) (fun h=> ?_)
   ·have z:i<4:=by have:=of_decide_eq_true h;omega
    have A:i<x.at_.length:=by rw[d.n];exact z
    rw[List.drop_eq_getElem_cons A]at he;refine go 6 ?_;refine a0D (o0P Tar.o Sc.o rfl rfl (by omega) (i0E a0H x.at_ i _ A (by omega))) ?_;refine go 9 ?_;refine a0O rfl (fun j=> ?_) (fun j=> ?_)
    ·have c:0<x.at_[i]:=of_decide_eq_true j;refine go 6 ?_;refine a0U rfl Hb.o rfl (c1U W a u x.at_[i] (by rw[he]at k;exact l2D k c)) gSp (fun M L f=> ?_) (fun e t f=>by refine pn ?_;exact kx ((by rw[he];exact l2E c f)));refine ns ?_;refine go 6 ?_;exact rd idh (⟨(i+1,L),z,by have:=u0S x.at_[i] u;rw[f]at this;exact this.trans hub,he.trans (q2M c f)⟩)
    ·have c: ¬0<x.at_[i]:=of_decide_eq_false j;refine go 6 ?_;exact rd idh (⟨(i+1,u),z,hub,he.trans (g2B c)⟩)
   ·obtain rfl:i=4:=by have:=of_decide_eq_false h;omega
    rw[List.drop_eq_nil_of_le (by rw[d.n];exact Nat.le_refl _),l2F]at he;have q:=r1V (show(h0O (key u.bits x.sum) u).1≠ .big by rw[←he];exact k);rw[w1E _ q]at he;refine go 2 ?_;refine e0C gFd fun by_ gv gc o J l=> ?_;simp only[d0B,c0R,List.cons_append,List.nil_append];refine mx (.r 0 17 (.hard 17 (.hard 18 .done))) [stC a u.bits,pts a.heap (.cells #[ptr a.disk,ptr a.log,ptr a.gr,.map (some a.refs),.map (some by_),gv,.int .i64 u.keep] 92 (0,0)),pts C (.cells (hdL x).toArray 230 (0,0))] ?_;refine go 12 ?_;refine d0A rfl (a0K (cs:=(hdL x).toArray) (v:=(x.sum.map a0Q).toArray) Ag.o rfl (by rw[m];omega) (c2K d)) ?_;refine cg 5 (t0Y x.sum u.bits d.sum (by omega)) ?_;refine ce 3 (v1D a by_ o u.log u.depth u.index (c0O u.bits x.sum) q l.2.2.2 (by rw[h0T,d.sum])) ?_;rintro e _;refine ns ?_;refine go 3 ?_;refine b0F (c0W (s:= {u with log:=bk u.depth u.log (.index (key u.bits x.sum) (a0C (key u.bits x.sum) u.index)),index:=b0D (key u.bits x.sum) u.index}) J (by exact⟨l.1,l.2.1,l.2.2.1,fun p K=>l.2.2.2 p (w1G K)⟩) gSp) (x0B he rfl rfl gSp)
end
theorem l2G (a b:B):(!((bs a).toList == (bs b).toList))=decide (a≠b):=by
 rw[c0G,c0G];by_cases e:a=b
 ·subst e;simp
 ·simp[e]
set_option maxRecDepth 4000 in
theorem g2C (W:World) (a:Ad) (s:St) (data:B) (e:data.length≤1000000) (b:data.length≠256∨a0R data=true):a0G prog 164 #[ptr a.st,b0C data] (RS W a s) (Ran fT (RS W a) a0H (j0E data s)):=by
 by_cases c:data.length=256
 ·have d:a0R data=true:=b.resolve_left (fun h=>h c);rw[show j0E data s=(.ok 0,s) by unfold j0E;rw[if_neg (by simp[c]),if_pos d];rfl];refine en func164 ntmps164 fun R w0=> ?_;refine go 10 ?_;rw[b0H];refine go 3 ?_;refine b0S rfl (by rw[c];rfl) ?_;refine cg 6 (z0H data (by omega)) ?_;refine go 8 ?_;exact rR idh rfl
 ·rw[show j0E data s=(.err 4,s) by unfold j0E;rw[if_pos c];rfl];refine en func164 ntmps164 fun R w0=> ?_;refine go 10 ?_;rw[b0H];refine go 3 ?_;refine d0P rfl (by simp only[bne_iff_ne,ne_eq];omega) ?_;refine go 1 ?_;refine c0A rfl Hb.o rfl (c0M 4) gSp ?_;refine ns ?_;refine pn ?_;exact b0W rfl idh gSp
set_option maxRecDepth 4000 in
theorem g2D (W:World) (D:i0L W) (a:Ad) (s:St) (data:B) (d:data.length=256) (G:a0R data=false) (j:s.bits≤256) (h:Int) (z:a0C (key s.bits (Sha.sum data)) s.index=some h) (q:(j0E data s).1≠ .big):
 a0G prog 164 #[ptr a.st,b0C data] (RS W a s) (Ran fT (RS W a) a0H (j0E data s)):=by
 have e0:j0E data s=a0B (l0D h) (fun c=>if c≠data then n0L 9 else a0B (k0S h) fun _=>ret h) s:=by
  unfold j0E;rw[if_neg (by simp[d]),if_neg (by simp[G])];simp only[z]
 have y:=p0Z data;have g:((Sha.sum data).map a0Q).toArray.size=32:=by rw[List.size_toArray,List.length_map,y]
 refine en func164 ntmps164 fun R w0=> ?_;refine go 10 ?_;rw[b0H];refine go 3 ?_;refine b0S rfl (by rw[d];rfl) ?_;refine cg 6 (z0H data (by omega)) ?_;refine go 8 ?_;refine bl fun i=> ?_;refine e0X (fun w F=>o1Q (n:=1) (b:=i) (l:= [b0C data]) (e:=9) rfl ((show Fnd _ (pts i _) _ from gFd).sat F) (by simp[maxLen])) ?_;refine cg 0 (o1P W D (.slice (some ⟨i,0,none⟩) 1 1) [data] (by simp[d]) (by simp)) ?_;rw[show [data].flatten=data by simp];refine al fun C=> ?_;refine a0M Sz.o rfl rfl g (fun x A=>by simp at A;obtain⟨_,_,rfl⟩:=A;rfl) (by rw[g];simp[Value.cells]) (a0N (by rw[g];simp[Value.cells])) ?_;refine go 4 ?_;refine e0C gFd fun by_ gv gc o E v=> ?_;simp only[d0B,c0R,List.cons_append,List.nil_append];refine mx (.r 0 9 (.hard 9 (.r 10 6 .done))) [stC a s.bits,pts C (.cells ((Sha.sum data).map a0Q).toArray 44 (0,0)),b0K a.ix d0X a0H s.index] ?_;refine go 4 ?_;refine d0A rfl (a0K Ag.o rfl (by rw[g];omega) (a0I g)) ?_;refine cg 5 (t0Y (Sha.sum data) s.bits y j) ?_;refine go 2 ?_;refine d0A rfl (o0W (ek:=d0X) (ev:=a0H) (k:=c0O s.bits (Sha.sum data)) c0Y.o y0J v.2.2.2 (by rw[h0T,y]) Zr.o rfl rfl gFd e0I) ?_;refine go 6 ?_;refine b0F (c0W E v gSp) ?_;rw[show a0C (c0O s.bits (Sha.sum data)) s.index=some h from z];refine go 12 ?_;refine a0U rfl Hb.o rfl (q1Y W a s h) gSp (fun c t p=> ?_) (fun e t p=>by refine pn ?_;exact kx ((by rw[e0];exact a0F p)));refine ns ?_;refine go 1 ?_;rw[a0A p]at e0;refine a0D (i0M rfl rfl) ?_;refine go 2 ?_;refine a0O rfl (fun f=> ?_) (fun f=> ?_)
 ·refine go 1 ?_;refine c0A rfl Hb.o rfl (c0M 9) gSp ?_;refine ns ?_;refine pn ?_;exact b0W (by rw[e0];have m:c≠data:=of_decide_eq_true ((l2G c data).symm.trans f);rw[if_pos m];rfl) idh gSp
 ·have m: ¬c≠data:=of_decide_eq_false ((l2G c data).symm.trans f);rw[if_neg m]at e0;refine go 9 ?_;skip;refine a0U rfl Hb.o rfl (c1S W a t h (by rw[e0]at q;exact c0I q)) gSp (fun u H p=> ?_) (fun e t p=>by refine pn ?_;exact kx ((by rw[e0];exact a0F p)));refine ns ?_;refine go 8 ?_;exact rR idh (by rw[e0,a0A p];rfl)
section
abbrev RSb (W:World) (a:Ad) (bits:Nat) (s:St):List a0E:= [whole W,dkC a s.d,dkR a s.d,m0X (l0N s.d),stC a bits,mpC a,HL a s]
theorem w1H {W:World} {a:Ad} {bits:Nat} {α:Type} {val:α→Value} {o:Out α×St} {e:Ending} {L:List a0E} (h:o.2.bits=bits):Ran fT (RSb W a bits) val o e L↔Ran fT (RS W a) val o e L:=by
 obtain⟨o,t⟩:=o;have h:t.bits=bits:=h;subst h;cases o<;>exact Iff.rfl
theorem _root_.Go.Sl.a0G.mono_ran {P:Program} {f:FuncId} {args:Array Value} {Pre:List a0E} {Post Post':Ending→List a0E→Prop} (h:a0G P f args Pre Post) (c: ∀e L,Post e L→Post' e L):a0G P f args Pre Post':=by
 intro w F d;refine(h w F d).mono ?_;rintro e g ⟨L',a,b⟩;exact⟨L',c _ _ a,b⟩
theorem j1V (data:B): ∀n,PB (n0I data n)
 |0=>c0V _
 |n+1=>by
  unfold n0I;refine b0L ?_ fun p=>b0L (j1V data n) fun r=>c0V _;split
  ·exact c0V _
  ·exact b0L (s0X _) fun _=>c0V _
theorem i1A (k:B) (v:Int):PB (f0F k v):=s0W _ (fun s=> {s with index:=b0O k v s.index}) fun _=>rfl
theorem l2H (W:World) (a:Ad) (s:St) (b:B) (bits:Nat) (hb:b.length≤1000000) (c:s.bits=bits) (d:(e0S b s).1≠ .big):a0G prog 202 #[ptr a.heap,b0C b] (RSb W a bits s) (Ran fT (RSb W a bits) a0H (e0S b s)):=by
 subst c;exact(q1J W a s b hb d).mono_ran (fun e L h=>(w1H (s0X b s)).2 h)
def a1C (ps:List (Int×Nat)):List (Int×Nat):=ps++List.replicate (4-ps.length) (0,0)
def hdP (data:B) (ps:List (Int×Nat)):Hd:= {at_:=(a1C ps).map (·.1),sums:=(a1C ps).map (·.2),sum:=Sha.sum data}
theorem l2I {ps:List (Int×Nat)} (h:ps.length<4):a1C (ps++ [(0,0)])=a1C ps:=by
 unfold a1C;obtain⟨m,a⟩: ∃m,4-ps.length=m+1:=⟨4-ps.length-1,by omega⟩;rw[List.length_append,a,List.replicate_succ,List.append_assoc];simp only[List.length_cons,List.length_nil,List.singleton_append];rw[show 4- (ps.length+(0+1))=m by omega]
theorem w1I {ps:List (Int×Nat)} (h:ps.length≤4):(a1C ps).length=4:=by unfold a1C;simp;omega
theorem j1W {data:B} {ps:List (Int×Nat)} (h:ps.length≤4) (d: ∀p∈ps,p.2<4294967296):z0I (hdP data ps):=by
 refine⟨by simp[hdP,w1I h],by simp[hdP,w1I h],fun c b=> ?_,p0Z data⟩;simp only[hdP,List.mem_map]at b;obtain⟨p,a,rfl⟩:=b;unfold a1C at a;rcases List.mem_append.1 a with a|a
 ·exact d p a
 ·rw[List.eq_of_mem_replicate a];decide
theorem q2N {data:B} {ps:List (Int×Nat)} (h:ps.length=4):hdP data ps= {at_:=ps.map (·.1),sums:=ps.map (·.2),sum:=Sha.sum data} :=by
 unfold hdP a1C;rw[h];simp
theorem c2L {data:B} {ps:List (Int×Nat)} {i a b:Nat} {x:Int} {c:Nat} (h:ps.length=i) (hi:i<4) (d:a=i) (e:b=4+i):((hdL (hdP data ps)).set a (a0H x)).set b (.int .u32 (c:Nat))=hdL (hdP data (ps++ [(x,c)])):=by
 subst d e;unfold hdL hdP a1C
 match ps,h,hi with
 | [],h,_=>subst h;rfl
 | [p],h,_=>subst h;rfl
 | [p,q],h,_=>subst h;rfl
 | [p,q,r],h,_=>subst h;rfl
 |_::_::_::_::_,h,hi=>simp only[List.length_cons]at h;omega
def s0L (data:B) (i:Nat) (ps:List (Int×Nat)) (s:St):Out Int×St:=a0B (n0I data (4-i)) (fun r=>a0B (e0S (h0Z {at_:=(ps++r).map (·.1),sums:=(ps++r).map (·.2),sum:=Sha.sum data})) fun a=>a0B (fun s=>f0F (key s.bits (Sha.sum data)) a s) fun _=>ret a) s
section
variable {data:B} {i:Nat} {ps:List (Int×Nat)} {s t:St}
theorem d1B (h:i<4):s0L data i ps s=a0B (a0B (if a0R (Go.Sb.part data i)then ret (0,0)else a0B (e0S (Go.Sb.part data i)) fun a=>ret (a,g0G (Go.Sb.part data i))) fun p=>a0B (n0I data (4- (i+1))) fun r=>ret (p::r)) (fun r=>a0B (e0S (h0Z {at_:=(ps++r).map (·.1),sums:=(ps++r).map (·.2),sum:=Sha.sum data})) fun a=>a0B (fun s=>f0F (key s.bits (Sha.sum data)) a s) fun _=>ret a) s:=by
 unfold s0L;obtain⟨n,d⟩: ∃n,4-i=n+1:=⟨4-i-1,by omega⟩;have c:4- (n+1)=i:=by omega
 have b:4- (i+1)=n:=by omega
 rw[d,b]
 conv=>lhs;unfold n0I
 simp only[c]
theorem q1Z (c:M (Int×Nat)) {p:Int×Nat} (b:c s=(.ok p,t)):a0B (a0B c fun p=>a0B (n0I data (4- (i+1))) fun r=>ret (p::r)) (fun r=>a0B (e0S (h0Z {at_:=(ps++r).map (·.1),sums:=(ps++r).map (·.2),sum:=Sha.sum data})) fun a=>a0B (fun s=>f0F (key s.bits (Sha.sum data)) a s) fun _=>ret a) s=s0L data (i+1) (ps++ [p]) t:=by
 unfold s0L;simp only[List.append_assoc,List.singleton_append];unfold a0B;rw[b];simp only;cases n0I data (4- (i+1)) t with
 |mk o u=>cases o<;>rfl
theorem l2J (h:i<4) (a:a0R (Go.Sb.part data i)=true):s0L data i ps s=s0L data (i+1) (ps++ [(0,0)]) s:=by
 rw[d1B h];exact q1Z _ (by rw[if_pos a];rfl)
theorem v2N {a:Int} (h:i<4) (c:a0R (Go.Sb.part data i)=false) (b:e0S (Go.Sb.part data i) s=(.ok a,t)):s0L data i ps s=s0L data (i+1) (ps++ [(a,g0G (Go.Sb.part data i))]) t:=by
 rw[d1B h];exact q1Z _ (by rw[if_neg (by simp[c]),a0A b];rfl)
theorem q2O {e:Int} (h:i<4) (b:a0R (Go.Sb.part data i)=false) (a:e0S (Go.Sb.part data i) s=(.err e,t)):s0L data i ps s=(.err e,t):=by
 rw[d1B h];rw[a0F];rw[a0F];rw[if_neg (by simp[b]),a0F a]
theorem q2P (h:i<4) (c:a0R (Go.Sb.part data i)=false) (a:(s0L data i ps s).1≠ .big):(e0S (Go.Sb.part data i) s).1≠ .big:=by
 rw[d1B h]at a;have b:=c0I (c0I a);rw[if_neg (by simp[c])]at b;exact c0I b
theorem q2Q (h:ps.length=4):s0L data 4 ps s=a0B (e0S (h0Z (hdP data ps))) (fun a=>a0B (fun s=>f0F (key s.bits (Sha.sum data)) a s) fun _=>ret a) s:=by
 unfold s0L;rw[a0A (show n0I data (4-4) s=(.ok [],s)from rfl),List.append_nil,q2N h]
theorem w1J {k:B} {v:Int} (h:(f0F k v s).1≠ .big):s.log.length<1000000000:=t0W h fun a=>by simp[f0F,a0B,back,a]
end
theorem w1K {K V:Type} [DecidableEq K] {k:K} {v:V} {p:K×V} : ∀ {m:List (K×V)},p∈b0O k v m→p=(k,v)∨p∈m
 | [],h=>by simpa [b0O] using h
 | (j,u)::m,h=>by
  unfold b0O at h;split at h
  ·rcases List.mem_cons.1 h with h|h
   ·exact .inl h
   ·exact .inr (List.mem_cons_of_mem _ h)
  ·rcases List.mem_cons.1 h with h|h
   ·exact .inr (by rw[h];exact List.mem_cons_self ..)
   ·rcases w1K h with h|h
    ·exact .inl h
    ·exact .inr (List.mem_cons_of_mem _ h)
theorem q2R {data:B} {i lo hi:Nat} (a:lo=64*i) (b:hi=64*i+64):(bs data).extract lo hi=bs (Go.Sb.part data i):=by
 subst a b;rw[l1V,List.drop_take,show 64*i+64-64*i=64 by omega];rfl
theorem w1L {a:Nat→Option (Nat×Nat)} {i off size:Nat} {vs cs:List Value} (h:a i=some (off,size)) (b:vs.length=size) (c:off+size≤cs.length):m0O a cs [(i,vs)]=some (cs.take off++(vs++cs.drop (off+size))):=by
 unfold m0O;rw[h];simp only[m0O];rw[show(Nat.beq vs.length size&&Nat.ble (off+vs.length) cs.length)=true by simp[b,c],b]
theorem f1N {b:B} (h:b.length≤60):(v0C b).length=64:=by unfold v0C;rw[List.length_append,q0T h,m0P]
theorem v2O {x:Hd} (h:z0I x):(h0Z x).length=64:=by
 unfold h0Z;refine f1N ?_;rw[List.length_append,List.length_append,List.length_append,i0J (k:=2) (fun a=>k0H a 2),i0J (k:=4) (fun a=>m0P a 4 4),h.n,h.m,h.sum];decide
set_option maxRecDepth 8000 in
theorem q2S (W:World) (hW:i0L W) (a:Ad) (s:St) (data:B) (d:data.length=256) (hz:a0R data=false) (A:s.bits≤256) (U:a0C (key s.bits (Sha.sum data)) s.index=none) (j:(j0E data s).1≠ .big):
 a0G prog 164 #[ptr a.st,b0C data] (RS W a s) (Ran fT (RS W a) a0H (j0E data s)):=by
 have S:j0E data s=s0L data 0 [] s:=by
  unfold j0E;rw[if_neg (by simp[d]),if_neg (by simp[hz])];simp only[U];rfl
 have V:(j0E data s).2.bits=s.bits:=by
  rw[S];exact b0L (j1V data 4) (fun r=>b0L (s0X _) fun a=>b0L (m1M (m:=fun s=>f0F (key s.bits (Sha.sum data)) a) fun _=>i1A _ _) fun _=>c0V _) s
 refine a0G.mono_ran (Post:=Ran fT (RSb W a s.bits) a0H (j0E data s)) ?_ (fun e L h=>(w1H V).1 h);have D:(hdL (hdP data [])).toArray.size=40:=by rw[List.size_toArray,u0Q (j1W (by simp) (by simp))]
 have e0:j0E data s=s0L data 0 [] s:=by
  unfold j0E;rw[if_neg (by simp[d]),if_neg (by simp[hz])];simp only[U];rfl
 have K:=p0Z data;have g:((Sha.sum data).map a0Q).toArray.size=32:=by rw[List.size_toArray,List.length_map,K]
 refine en func164 ntmps164 fun R w0=> ?_;refine go 10 ?_;rw[b0H];refine go 3 ?_;refine b0S rfl (by rw[d];rfl) ?_;refine cg 6 (z0H data (by omega)) ?_;refine go 8 ?_;refine bl fun J=> ?_;refine e0X (fun w hs=>o1Q (n:=1) (b:=J) (l:= [b0C data]) (e:=9) rfl ((show Fnd _ (pts J _) _ from gFd).sat hs) (by simp[maxLen])) ?_;refine cg 0 (o1P W hW (.slice (some ⟨J,0,none⟩) 1 1) [data] (by simp[d]) (by simp)) ?_;rw[show [data].flatten=data by simp];refine al fun O=> ?_;refine a0M Sz.o rfl rfl g (fun x hx=>by simp at hx;obtain⟨_,_,rfl⟩:=hx;rfl) (by rw[g];simp[Value.cells]) (a0N (by rw[g];simp[Value.cells])) ?_;refine go 4 ?_;refine e0C gFd fun by_ gv gc o T c=> ?_;simp only[d0B,c0R,List.cons_append,List.nil_append];refine mx (.r 0 9 (.hard 9 (.r 10 6 .done))) [stC a s.bits,pts O (.cells ((Sha.sum data).map a0Q).toArray 44 (0,0)),b0K a.ix d0X a0H s.index] ?_;refine go 4 ?_;refine d0A rfl (a0K Ag.o rfl (by rw[g];omega) (a0I g)) ?_;refine cg 5 (t0Y (Sha.sum data) s.bits K A) ?_;refine go 2 ?_;refine d0A rfl (o0W (ek:=d0X) (ev:=a0H) (k:=c0O s.bits (Sha.sum data)) c0Y.o y0J c.2.2.2 (by rw[h0T,K]) Zr.o rfl rfl gFd e0I) ?_;refine go 6 ?_;refine b0F (c0W T c gSp) ?_;rw[show a0C (c0O s.bits (Sha.sum data)) s.index=none from U];refine go 11 ?_;refine a0D (a0K Ag.o rfl (by rw[g];omega) (a0I g)) ?_;refine a0D (s0P (cs:=hdL (hdP data [])) Pl.o rfl ((w1L (i:=2) (off:=8) (size:=32) (vs:=(Sha.sum data).map a0Q) rfl (by simp[K]) (by exact Nat.le_refl 40)).trans (congrArg some (show(List.replicate 4 (a0H 0)++List.replicate 4 (Value.int .u32 0))++((Sha.sum data).map a0Q++ [])=_ by rw[List.append_nil];rfl)))) ?_;refine al fun Q=> ?_;refine a0M Sz.o rfl rfl D (b1A _) (by rw[D];exact Nat.le_refl 40) (a0N (by rw[D];rfl)) ?_;refine go 9 ?_;refine a0V (X:= {y:Nat×St×List (Int×Nat) // y.1≤4∧y.2.2.length=y.1∧(∀p∈y.2.2,p.2<4294967296)∧y.2.1.bits=s.bits∧j0E data s=s0L data y.1 y.2.2 y.2.1}) (fun y=> [(0,ptr a.st),(1,b0C data),(5,ptr O),(8,ptr Q),(51,.int .i64 y.1.1)]) (fun y=>RSb W a s.bits y.1.2.1++ [pts Q (.cells (hdL (hdP data y.1.2.2)).toArray 230 (0,0)),pts O (.cells ((Sha.sum data).map a0Q).toArray 44 (0,0)),R]) (fun y=>4-y.1.1) ⟨(0,s,[]),by omega,rfl,by simp,rfl,e0⟩ gSu gSp ?_;rintro⟨⟨i,u,ps⟩,hi,hpl,hpc,hub,he⟩ m0 hm0
 try simp only at hm0
 try dsimp only
 simp only at hi hpl hpc hub he;refine ns ?_;refine go 6 ?_;refine a0O rfl (fun v=> ?_) (fun v=> ?_)
 ·have f:i<4:=by have:=of_decide_eq_true v;omega
  have hbz:(bs data).size=256:=by rw[b0H,d]
  have Z:=Go.Sb.j1F d f;refine go 18 ?_;refine a0D (g1F Tst.o rfl rfl rfl (by omega)) ?_;refine go 4 ?_;rw[q2R (data:=data) (i:=i) (by omega) (by omega)];refine cg 2 (z0H (Go.Sb.part data i) (by omega)) ?_;refine go 3 ?_;refine a0O rfl (fun z=> ?_) (fun z=> ?_)
  ·have C:a0R (Go.Sb.part data i)=false:=by simpa using z
   have H:(hdL (hdP data ps)).length=40:=u0Q (j1W (by omega) hpc);refine fx (.r 0 7 (.soft 8 (.soft 11 (.soft 14 (.float 9 (.hard 7 (.soft 12 (.res (.hard 10 (.hard 13 (.soft 15 (.hard 16 .done)))))))))))) [stC a s.bits] ?_;refine go 10 ?_;refine t0F (e0:= [(72,_)]) rfl gSu (fun _ _ _=>rfl) Tsl.o Zr.o rfl rfl rfl (by simp[m0O,r0L,Value.cells]<;>rfl) rfl ?_;refine b0Y rfl (fun c EE FF=> ?_);refine ns ?_;refine a0U rfl Hb.o rfl (l2H W a u (Go.Sb.part data i) s.bits (by omega) hub (by rw[he]at j;exact q2P f C j)) gSp (fun x t G=> ?_) (fun e t G=>by refine pn ?_;exact kx ((by rw[he];exact q2O f C G)));refine ns ?_;refine go 1 ?_;refine fn (E:=EE) (F:=FF) (c.put rfl) ?_;refine go 1 ?_;refine l0Y (fun P=> ?_);dsimp only;refine b0Y rfl (fun c EE FF=> ?_);refine ns ?_;refine cg 0 (s0V P 1 (bs (Go.Sb.part data i)) (by rw[b0H,Z];simp[maxLen])) ?_;refine go 1 ?_;refine fn (E:=EE) (F:=FF) (c.put rfl) ?_;refine b0Y rfl (fun c EE FF=> ?_);refine ns ?_;refine d0T Sz.o rfl rfl rfl (by rw[Nat.blt_eq];(try rw[List.length_set]);rw[H];omega) rfl ?_;refine go 1 ?_;refine fn (E:=EE) (F:=FF) c ?_;refine go 1 ?_;refine b0Y rfl (fun c EE FF=> ?_);refine ns ?_;refine d0T Sz.o rfl rfl rfl (by rw[Nat.blt_eq];(try rw[List.length_set]);rw[H];omega) rfl ?_;refine go 1 ?_;refine fn (E:=EE) (F:=FF) c ?_;refine go 1 ?_
   first|rw[c2L hpl f (by omega) (by omega)]|rw[List.set_comm _ _ (by omega),c2L hpl f (by omega) (by omega)]
   refine go 5 ?_;exact rd idh (⟨(i+1,t,ps++ [(x,g0G (Go.Sb.part data i))]),f,by simp[hpl],by intro p q;rcases List.mem_append.1 q with q|q;(· exact hpc p q);(· rw[List.mem_singleton.1 q];exact y0L _),(by have:=s0X (Go.Sb.part data i) u;rw[G]at this;exact this.trans hub),he.trans (v2N f C G)⟩)
  ·have C:a0R (Go.Sb.part data i)=true:=by simpa using z
   have Y:hdP data ps=hdP data (ps++ [(0,0)]):=by unfold hdP;rw[l2I (by omega)]
   rw[Y];refine go 6 ?_;exact rd idh (⟨(i+1,u,ps++ [(0,0)]),f,by simp[hpl],by intro p q;rcases List.mem_append.1 q with q|q;(· exact hpc p q);(· rw[List.mem_singleton.1 q];decide),hub,he.trans (l2J f C)⟩)
 ·obtain rfl:i=4:=by have:=of_decide_eq_false v;omega
  have M:=j1W (data:=data) (by omega) hpc;have N:(hdL (hdP data ps)).toArray.size=40:=by rw[List.size_toArray,u0Q M]
  rw[q2Q hpl]at he;refine go 3 ?_;refine mx (.r 0 5 (.hard 5 (.hard 6 (.soft 7 .done)))) [stC a s.bits,pts Q (.cells (hdL (hdP data ps)).toArray 230 (0,0))] ?_;refine go 4 ?_;refine d0A rfl (a0K Ag.o rfl (by rw[N];omega) (a0I N)) ?_;refine cg 1 (v1Y (hdP data ps) M) ?_;refine go 3 ?_;refine a0U rfl Hb.o rfl (l2H W a u (h0Z (hdP data ps)) s.bits (by rw[v2O M];omega) hub (by rw[he]at j;exact c0I j)) gSp (fun x t G=> ?_) (fun e t G=>by refine pn ?_;exact kx ((by rw[he];exact a0F G)));refine ns ?_;refine go 6 ?_;have htb:t.bits=s.bits:=by have:=s0X (h0Z (hdP data ps)) u;rw[G]at this;exact this.trans hub
  rw[a0A G]at he;have I:=w1J (show(f0F (key t.bits (Sha.sum data)) x t).1≠ .big by rw[he]at j;exact c0I j);rw[a0A (m:=fun s=>f0F (key s.bits (Sha.sum data)) x s) (show _=_ from z1M _ _ I),htb]at he;refine e0C gFd fun by_ gv gc o T c=> ?_;simp only[d0B,c0R,List.cons_append,List.nil_append];refine mx (.r 0 16 (.soft 17 (.hard 16 (.hard 18 .done)))) [stC a s.bits,pts a.heap (.cells #[ptr a.disk,ptr a.log,ptr a.gr,.map (some a.refs),.map (some by_),gv,.int .i64 t.keep] 92 (0,0)),pts O (.cells ((Sha.sum data).map a0Q).toArray 44 (0,0))] ?_;refine go 11 ?_;refine d0A rfl (a0K Ag.o rfl (by rw[g];omega) (a0I g)) ?_;refine cg 6 (t0Y (Sha.sum data) s.bits K A) ?_;refine ce 3 (z1A a by_ o t.log t.depth t.index (c0O s.bits (Sha.sum data)) x I c.2.2.2 (by rw[h0T,K])) ?_;rintro e _;refine ns ?_;refine go 10 ?_;refine b0U (c0W (s:= {t with log:=bk t.depth t.log (.index (key s.bits (Sha.sum data)) (a0C (key s.bits (Sha.sum data)) t.index)),index:=b0O (key s.bits (Sha.sum data)) x t.index}) T (by exact⟨c.1,c.2.1,c.2.2.1,fun p q=>by rcases w1K q with h|h;(· rw[h];exact(by unfold key;rw[h0T,K]));(· exact c.2.2.2 p h)⟩) gSp) (n0M he idh rfl rfl gSp)
end
theorem r1A (W:World) (g:i0L W) (a:Ad) (s:St) (data:B) (j:data.length≤1000000) (b:s.bits≤256) (c:(j0E data s).1≠ .big):a0G prog 164 #[ptr a.st,b0C data] (RS W a s) (Ran fT (RS W a) a0H (j0E data s)):=by
 by_cases h:data.length≠256∨a0R data=true
 ·exact g2C W a s data j h
 ·have d:data.length=256:=Classical.byContradiction fun e=>h (.inl e);have f:a0R data=false:=by cases e:a0R data with
   |false=>rfl
   |true=>exact(h (.inr e)).elim
  cases i:a0C (key s.bits (Sha.sum data)) s.index with
  |some a0=>exact g2D W g a s data d f b a0 i c
  |none=>exact q2S W g a s data d f b i c
theorem o1T (at_:Int):PB (g0X at_):=fun s=>by unfold g0X;split<;>rfl
theorem c2M {α:Type} (o:Out α):PB (s0H o):=fun _=>rfl
theorem h1E {α:Type} (e:Int):PB (n0L e:M α):=fun _=>rfl
theorem i0F {α:Type} {p:Prop} [Decidable p] {m n:M α} (h:PB m) (a:PB n):PB (if p then m else n):=by split<;>assumption
theorem u0T {α:Type} {f:α→M Unit} (h: ∀x,PB (f x)): ∀l,PB (d0V f l)
 | []=>c0V _
 |x::l=>b0L (h x) fun _=>u0T h l
theorem d1C (a:Int):PB (e0U a):=b0L (o1T a) fun _=>c2M _
theorem j1X (k:Int):PB (k0S k):=fun s=>by
 unfold k0S;split
 ·rfl
 ·exact c1Z k _ s
theorem w1M (k:B):PB (h0O k):=s0W _ (fun s=> {s with index:=b0D k s.index}) fun _=>rfl
theorem q2T (k:Int):PB (t0K k):=i0F (c0V _) (j1X k)
theorem g2E (k:Int):PB (j0K k):=i0F (b0L (u0S k) fun _=>c0V _) (c0V _)
theorem d1D (k:Int):PB (g0O k):=i0F (c0V _) (b0L (d1C k) fun x=>b0L (u0S k) fun b=>i0F (b0L (u0T g2E _) fun _=>m1M (m:=fun s=>h0O (key s.bits x.sum)) fun _=>w1M _) (c0V _))
theorem r1B (x:Hd): ∀n,PB (g0A x n)
 |0=>c0V _
 |n+1=>by
  unfold g0A;exact b0L (i0F (b0L (o1T _) fun _=>i0F (h1E _) (c0V _)) (c0V _)) fun _=>b0L (r1B x n) fun _=>c0V _
theorem c2N (a:Int):PB (l0D a):=i0F (c0V _) (b0L (d1C a) fun x=>r1B x 4)
theorem v2P (a:Int):PB (r0X a):=i0F (c0V _) (b0L (d1C a) fun x=>c0V _)
theorem o1U (data:B):PB (j0E data):=by
 unfold j0E;refine i0F (h1E _) (i0F (c0V _) fun s=> ?_);show(match a0C (key s.bits (Sha.sum data)) s.index with
  |some a=>a0B (l0D a) (fun b=>if b≠data then n0L 9 else a0B (k0S a) fun _=>ret a) s
  |none=>a0B (n0I data 4) (fun ps:List (Int×Nat)=>a0B (e0S (h0Z {at_:=ps.map Prod.fst,sums:=ps.map Prod.snd,sum:=Sha.sum data})) fun a=>a0B (fun s=>f0F (key s.bits (Sha.sum data)) a s) fun _=>ret a) s).2.bits=s.bits
 split
 ·exact b0L (c2N _) (fun _=>i0F (h1E _) (b0L (j1X _) fun _=>c0V _)) s
 ·exact b0L (j1V data 4) (fun r=>b0L (s0X _) fun a=>b0L (m1M (m:=fun s=>f0F (key s.bits (Sha.sum data)) a) fun _=>i1A _ _) fun _=>c0V _) s
theorem u0U (a:Int) (l:Nat):PB (Go.Sb.load a l):=i0F (c0V _) (b0L (o1T a) fun _=>c2M _)
theorem j1Y (a:Int) (l:Nat):PB (h0E a l):=i0F (c0V _) (i0F (q2T a) (j1X a))
theorem y0P: ∀l a,PB (g0P l a)
 |0,a=>d1D a
 |l+1,a=>by
  unfold g0P;exact i0F (c0V _) (b0L (u0U a l) fun n=>b0L (u0S a) fun b=>i0F (u0T (y0P l) _) (c0V _))
theorem j1Z (l:Nat): ∀k,PB (h0F l k)
 | []=>c0V _
 |k::r=>by
  unfold h0F;refine b0L ?_ fun s=>b0L (j1Z l r) fun _=>c0V _;cases l with
  |zero=>exact v2P k
  |succ n=>exact b0L (u0U k n) fun _=>c0V _
theorem o1V: ∀l root at_ to_,PB (i0W l root at_ to_)
 |0,root,at_,to_=>by
  unfold i0W;exact b0L (u0U _ _) fun n=>b0L (u0T (fun k=>j1Y k 0) _) fun _=>b0L (y0P _ _) fun _=>b0L (b0L (d1D _) fun _=>c0V _) fun r=>i0F (c0V _) (b0L (j1Z _ _) fun _=>s0X _)
 |l+1,root,at_,to_=>by
  unfold i0W;exact b0L (u0U _ _) fun n=>b0L (u0T (fun k=>j1Y k (l+1)) _) fun _=>b0L (y0P _ _) fun _=>b0L (o1V l _ _ _) fun r=>i0F (c0V _) (b0L (j1Z _ _) fun _=>s0X _)
theorem o1W: ∀l root at_,PB (l0E l root at_)
 |0,root,at_=>by unfold l0E;exact b0L (u0U _ _) fun _=>c0V _
 |l+1,root,at_=>by unfold l0E;exact b0L (u0U _ _) fun _=>o1W l _ _
theorem o1X (root:Int) (at_:Nat) (to_:Int):PB (m0G root at_ to_):=b0L (o1W _ _ _) fun x=>i0F (b0L (d1D _) fun _=>c0V _) (o1V _ _ _ _)
theorem f1O {l:Nat} {b:B} {x:Nd} (h:g0C l b= .ok x):o0T x:=by
 unfold g0C at h;cases a:i0A b with
 |err e=>rw[a]at h;cases h
 |big=>rw[a]at h;cases h
 |ok t=>
  rw[a]at h;simp only at h;have c:t=b.take 60∧b.length=64:=by
   unfold i0A at a;split at a
   ·cases a
   ·split at a
    ·cases a
    ·split at a
     ·cases a
     ·split at a
      ·cases a
      ·rename_i d;cases a;exact⟨rfl,by omega⟩
  split at h
  ·cases h
  ·split at h
   ·cases h
   ·split at h
    ·cases h
    ·cases h
     exact⟨by simp[l0I],by simp;rw[c.1];simp;omega⟩
theorem h0Q {at_:Int} {l:Nat} {s t:St} {x:Nd} (h:Go.Sb.load at_ l s=(.ok x,t)):t=s∧o0T x:=by
 unfold Go.Sb.load at h;split at h
 ·cases h;exact⟨rfl,⟨rfl,by simp[a0L]⟩⟩
 ·cases a:g0X at_ s with
  |mk o u=>
   cases o with
   |ok b=>
    rw[a0A a]at h;unfold s0H at h;simp only[Prod.mk.injEq]at h;exact⟨h.2.symm.trans (x0M a).1,f1O h.1⟩
   |err e=>rw[a0F a]at h;cases h
   |big=>unfold a0B at h;rw[a]at h;cases h
theorem q0F {l:Int} {x:Nd} (h:o0T x):(ndL l x).length=41:=by unfold ndL;simp[h.n,h.sum]
theorem h1F (l:Int) (x:Nd): ∀v∈(ndL l x).toArray.toList,v.oneCell'=true:=by
 intro v a;simp only[ndL,List.mem_append,List.mem_map,List.mem_singleton]at a;rcases a with rfl| ⟨_,_,rfl⟩| ⟨_,_,rfl⟩<;>rfl
theorem v2Q:o0T {kids:=e0L,sum:=a0L 32} :=⟨rfl,by simp[a0L]⟩
set_option maxRecDepth 4000 in
theorem p0F (W:World) (a:Ad) (s:St) (at_:Int) (l:Nat):a0G prog 108 #[ptr a.maps,.int .i64 at_,.int .i64 l] (RS W a s) (Ran fT (RS W a) (ndV l) (Go.Sb.load at_ l s)):=by
 by_cases h:at_=0
 ·subst h;rw[show Go.Sb.load 0 l s=(.ok {kids:=e0L,sum:=a0L 32},s) by unfold Go.Sb.load;rw[if_pos rfl];rfl];have c:(ndL l {kids:=e0L,sum:=a0L 32}).toArray.size=41:=by rw[List.size_toArray,q0F v2Q]
  refine en func108 ntmps108 fun R w0=> ?_;refine go 2 ?_;refine al fun q=> ?_;refine go 13 ?_;refine a0D (s0P (cs:=ndL l {kids:=e0L,sum:=a0L 32}) Pl.o rfl ((w1L (i:=0) (off:=0) (size:=1) (vs:= [a0H l]) rfl rfl (by exact Nat.le_add_left 1 40)).trans (by rfl))) ?_;refine a0M Sz.o rfl rfl c (h1F _ _) (by rw[c];exact Nat.le_refl 41) (a0N (by rw[c];rfl)) ?_;refine go 2 ?_;exact k0A rfl idh (RV.agg Ag.o rfl (by rw[c];omega) (a0I c) RV.nil) rfl gSp
 ·have e0:Go.Sb.load at_ l s=a0B (g0X at_) (fun b=>s0H (g0C l b)) s:=by unfold Go.Sb.load;rw[if_neg h]
  refine en func108 ntmps108 fun R w0=> ?_;refine n0N (p:=l0N s.d) gFd fun j=> ?_;refine go 2 ?_;refine al fun q=> ?_;refine go 9 ?_;refine b0S rfl (by simpa using h) ?_;refine go 9 ?_;refine a0U rfl Hb.o rfl (f1E W a s at_) gSp (fun b t f=> ?_) (fun e t f=>by refine pn ?_;exact kx ((by rw[e0];exact a0F f)));refine ns ?_;obtain⟨rfl,m⟩:=x0M f;have r:=q1V j m;have g:=f;refine go 1 ?_;refine a0U rfl Hb.o rfl (w1C l b (by omega)) gSp (fun x u f=> ?_) (fun e t f=>by refine pn ?_;exact kx ((by rw[e0,a0A g];unfold s0H;rw[show g0C l b= .err e from congrArg Prod.fst f])));refine ns ?_;have n:g0C l b= .ok x:=congrArg Prod.fst f;have k:=f1O n;have c:(ndL l x).toArray.size=41:=by rw[List.size_toArray,q0F k]
  have v:Go.Sb.load at_ l t=(.ok x,t):=by rw[e0,a0A g];unfold s0H;rw[n]
  refine a0M Sz.o rfl rfl c (h1F _ _) (by rw[c];exact Nat.le_refl 41) (a0N (by rw[c];rfl)) ?_;refine go 2 ?_;exact k0A v idh (RV.agg Ag.o rfl (by rw[c];omega) (a0I c) RV.nil) rfl gSp
theorem m1N (W:World) (a:Ad) (s:St) (at_:Int) (l:Nat) (b:(h0E at_ l s).1≠ .big):a0G prog 183 #[ptr a.maps,.int .i64 at_,.int .i64 l] (RS W a s) (Ran fT (RS W a) i0S (h0E at_ l s)):=by
 by_cases d:at_=0
 ·rw[show h0E at_ l s=(.ok (),s) by unfold h0E;rw[if_pos d];rfl];refine en func183 ntmps183 fun R w0=> ?_;refine go 8 ?_;refine d0P rfl (by simpa using d) ?_;refine go 1 ?_;exact fR rfl
 ·by_cases f:l=0
  ·subst f;have g:h0E at_ 0 s=t0K at_ s:=by unfold h0E;rw[if_neg d,if_pos rfl]
   rw[g]at b ⊢;refine en func183 ntmps183 fun R w0=> ?_;refine go 8 ?_;refine b0S rfl (by simpa using d) ?_;refine go 14 ?_;refine a0U rfl Hb.o rfl (f2Z W a s at_ b) gSp (fun u t c=> ?_) (fun e t c=>by refine pn ?_;exact kx (c));refine ns ?_;refine go 1 ?_;exact fR c
  ·have g:h0E at_ l s=k0S at_ s:=by unfold h0E;rw[if_neg d,if_neg f]
   rw[g]at b ⊢;refine en func183 ntmps183 fun R w0=> ?_;refine go 8 ?_;refine b0S rfl (by simpa using d) ?_;refine go 7 ?_;refine b0S rfl (by simpa using f) ?_;refine go 6 ?_;refine a0U rfl Hb.o rfl (c1S W a s at_ b) gSp (fun u t c=> ?_) (fun e t c=>by refine pn ?_;exact kx (c));refine ns ?_;refine go 1 ?_;exact fR c
section
section
variable {α:Type} {f:α→M Unit} {x:α} {l:List α} {s t:St} {e:Int}
theorem h1G (h:f x s=(.ok (),t)):d0V f (x::l) s=d0V f l t:=by
 show a0B (f x) (fun _=>d0V f l) s=_;rw[a0A h]
theorem d1E (h:f x s=(.err e,t)):d0V f (x::l) s=(.err e,t):=by unfold d0V;rw[a0F h]
theorem k1A (h:(d0V f (x::l) s).1≠ .big):(f x s).1≠ .big:=by unfold d0V at h;exact c0I h
end
abbrev k1B (W:World) (a:Ad) (l:Nat):Prop:= ∀(s:St) (at_:Int),s.bits≤256→(g0P l at_ s).1≠ .big→a0G prog 207 #[ptr a.maps,.int .i64 at_,.int .i64 l] (RS W a s) (Ran fT (RS W a) i0S (g0P l at_ s))
abbrev k1C (W:World) (a:Ad) (l:Nat):Prop:= ∀(s:St) (at_:Int),s.bits≤256→(g0P (l+1) at_ s).1≠ .big→a0G prog 170 #[ptr a.maps,.int .i64 at_,.int .i64 l] (RS W a s) (Ran fT (RS W a) i0S (g0P (l+1) at_ s))
theorem g2F (W:World) (a:Ad):k1B W a 0:=by
 intro s at_ b c;have f:g0P 0 at_ s=g0O at_ s:=rfl;rw[f]at c ⊢;refine en func207 ntmps207 fun R w0=> ?_;refine go 15 ?_;refine a0U rfl Hb.o rfl (d1A W a s at_ b c) gSp (fun u t d=> ?_) (fun e t d=>by refine pn ?_;exact kx (d));refine ns ?_;refine go 2 ?_;exact rR idh d
theorem g2G (W:World) (a:Ad) (l:Nat) (f:l<100) (hd:k1C W a l):k1B W a (l+1):=by
 intro s at_ b c;refine en func207 ntmps207 fun R w0=> ?_;refine go 15 ?_;rw[show((l+1:Nat):Int)-1=(l:Int) by omega];refine a0U rfl Hb.o rfl (hd s at_ b c) gSp (fun u t d=> ?_) (fun e t d=>by refine pn ?_;exact kx (d));refine ns ?_;refine go 1 ?_;exact fR d
set_option maxRecDepth 4000 in
theorem m1O (W:World) (a:Ad) (l:Nat) (hd:k1B W a l):k1C W a l:=by
 intro s at_ w h;by_cases r:at_=0
 ·subst r;rw[show g0P (l+1) 0 s=(.ok (),s) by unfold g0P;rw[if_pos rfl];rfl];refine en func170 ntmps170 fun R w0=> ?_;refine go 8 ?_;exact rR idh rfl
 ·have e0:g0P (l+1) at_ s=a0B (Go.Sb.load at_ l) (fun n=>a0B (e0G at_) fun b=>if b then d0V (g0P l) n.kids else ret ()) s:=by
   conv=>lhs;unfold g0P
   rw[if_neg r]
  refine en func170 ntmps170 fun R w0=> ?_;refine go 7 ?_;refine b0S rfl (by simpa using r) ?_;refine go 7 ?_;refine a0U rfl Hb.o rfl (p0F W a s at_ l) gSp (fun x t c=> ?_) (fun e t c=>by refine pn ?_;exact kx ((by rw[e0];exact a0F c)));refine ns ?_;obtain⟨B,g⟩:=h0Q c;rw[B]at c ⊢;rw[a0A c]at e0;have j:(ndL l x).toArray.size=41:=by rw[List.size_toArray,q0F g]
  have c1:(x.kids.map a0H).length=8:=by simp[g.n]
  have q:(e0G at_ s).1≠ .big:=by rw[e0]at h;exact c0I h
  refine al fun E=> ?_;refine a0M Sz.o rfl rfl j (h1F _ _) (by rw[j];exact Nat.le_refl 41) (a0N (by rw[j];rfl)) ?_;refine go 10 ?_;refine a0U rfl Hb.o rfl (c1U W a s at_ q) gSp (fun b t c=> ?_) (fun e t c=>by refine pn ?_;exact kx ((by rw[e0];exact a0F c)));refine ns ?_;have k:=c;rw[a0A k]at e0;refine go 3 ?_;refine a0O rfl (fun d=> ?_) (fun d=> ?_)
  ·have v:b=false:=by simpa using d
   exact rR idh (by rw[e0,v];rfl)
  ·have z:b=true:=by simpa using d
   have A:g0P (l+1) at_ s=d0V (g0P l) (x.kids.drop 0) t:=by rw[e0,z];rfl
   refine go 5 ?_;refine a0D (a0K Ag.o rfl (by show 0+1+8≤(ndL l x).toArray.size;rw[j];omega) (d0Y (a:= [a0H l]) rfl c1)) ?_;refine go 4 ?_;refine a0V (X:= {y:Nat×St // y.1≤8∧y.2.bits=s.bits∧g0P (l+1) at_ s=d0V (g0P l) (x.kids.drop y.1) y.2}) (fun y=> [(0,ptr a.maps),(2,.int .i64 l),(23,.agg (x.kids.map a0H).toArray),(24,.int .i64 y.1.1)]) (fun y=>RS W a y.1.2++ [R]) (fun y=>8-y.1.1) ⟨(0,t),by omega,by have:=u0S at_ s;rw[k]at this;exact this,A⟩ gSu gSp ?_;rintro⟨⟨i,u⟩,hi,hub,he⟩ m0 hm0
   try simp only at hm0
   try dsimp only
   simp only at hi hub he;refine ns ?_;refine go 6 ?_;refine a0O rfl (fun f=> ?_) (fun f=> ?_)
   ·have m:i<8:=by have:=of_decide_eq_true f;omega
    have p:i<x.kids.length:=by rw[g.n];exact m
    rw[List.drop_eq_getElem_cons p]at he;refine go 6 ?_;refine a0D (o0P Tar.o Sc.o rfl rfl (by omega) (i0E a0H x.kids i _ p (by omega))) ?_;refine go 7 ?_;refine a0U rfl Hb.o rfl (hd u x.kids[i] (by omega) (by rw[he]at h;exact k1A h)) gSp (fun D C c=> ?_) (fun e t c=>by refine pn ?_;exact kx ((by rw[he];exact d1E c)));refine ns ?_;refine go 6 ?_;exact rd idh (⟨(i+1,C),m,(by have:=y0P l x.kids[i] u;rw[c]at this;exact this.trans hub),he.trans (h1G c)⟩)
   ·obtain rfl:i=8:=by have:=of_decide_eq_false f;omega
    rw[List.drop_eq_nil_of_le (by rw[g.n];exact Nat.le_refl _)]at he;refine go 1 ?_;exact fR he
theorem f1P (W:World) (a:Ad): ∀l,l<100→k1C W a l
 |0,_=>m1O W a 0 (g2F W a)
 |l+1,h=>m1O W a (l+1) (g2G W a l (by omega) (f1P W a l (by omega)))
end
abbrev d1F (b:Bool):Value:= .bool b
theorem l2K {at_:Int} {s:St} (h:(e0Z at_ s).1≠ .big):inR at_=true:=by
 cases e:inR at_ with
 |true=>rfl
 |false=>exact(h (by unfold e0Z;rw[if_pos e])).elim
theorem s0Y (at_:Int):PB (e0Z at_):=fun s=>by
 unfold e0Z
 repeat' split
 all_goals rfl
theorem a1D (W:World) (a:Ad) (s:St) (at_:Int) (h:(e0Z at_ s).1≠ .big):a0G prog 176 #[ptr a.heap,.int .i64 at_] (RS W a s) (Ran fT (RS W a) d1F (e0Z at_ s)):=by
 have hi:=l2K h;have i: ¬inR at_=false:=by rw[hi];decide
 clear h;by_cases d:0<c0N s at_
 ·rw[show e0Z at_ s=(.ok false,{s with refs:=b0O at_ (j0Z (c0N s at_+1)) s.refs}) by unfold e0Z;rw[if_neg i,if_pos d]];have c:0<(a0C at_ s.refs).getD 0:=d;refine en func176 ntmps176 fun R w0=> ?_;refine e0C gFd fun by_ gv gc o e b=> ?_;simp only[d0B,c0R,List.cons_append,List.nil_append];refine go 13 ?_;refine a0D (e0Q (ek:=a0H) (ev:=a0H) c0Y.o h0C (tt fun _=>trivial) trivial Zr.o rfl rfl gFd e0I) ?_;refine go 3 ?_;refine d0P rfl (decide_eq_true c) ?_;refine go 7 ?_;refine a0D (e0Q (ek:=a0H) (ev:=a0H) c0Y.o h0C (tt fun _=>trivial) trivial Zr.o rfl rfl gFd e0I) ?_;refine a0D (g1D rfl rfl) ?_;rw[f1F];refine i0O (ek:=a0H) (ev:=a0H) (k:=at_) (v:=j0Z (c0N s at_+1)) c0Y.o h0C (tt fun _=>trivial) trivial rfl rfl rfl (show Fnd _ (b0K a.refs a0H a0H s.refs) _ from gFd) ?_;refine go 7 ?_;refine b0U (c0W (s:= {s with refs:=b0O at_ (j0Z (c0N s at_+1)) s.refs}) e b gSp) (n0M rfl idh rfl rfl gSp)
 have c: ¬0<(a0C at_ s.refs).getD 0:=d;cases hb:isB s.fr s.g at_ 0 with
 |false=>
  rw[show e0Z at_ s=(.err 6,s) by unfold e0Z;rw[if_neg i,if_neg d,if_pos hb]];have j:mvL s.fr s.g at_ 0 1=s.g:=by unfold mvL;rw[hb]
  refine en func176 ntmps176 fun R w0=> ?_;refine e0C gFd fun by_ gv gc o e b=> ?_;simp only[d0B,c0R,List.cons_append,List.nil_append];have f:=l1X a.gr a.grl s.fr s.g at_ (t0T hi) b.1 b.2.1;rw[hb,j]at f;refine go 13 ?_;refine a0D (e0Q (ek:=a0H) (ev:=a0H) c0Y.o h0C (tt fun _=>trivial) trivial Zr.o rfl rfl gFd e0I) ?_;refine go 3 ?_;refine b0S rfl (decide_eq_false c) ?_;refine cg 10 (f) ?_;refine go 5 ?_;refine c0A rfl Hb.o rfl (c0M 6) gSp ?_;refine ns ?_;refine pn ?_;refine b0F (c0W e b gSp) (d0U idh (b0A.back gSp) ⟨rfl,rfl⟩)
 |true=>
  rw[show e0Z at_ s=(.ok true,{s with g:=mvL s.fr s.g at_ 0 1,refs:=b0O at_ 1 s.refs}) by unfold e0Z;rw[if_neg i,if_neg d,if_neg (by rw[hb];decide)]];refine en func176 ntmps176 fun R w0=> ?_;refine e0C gFd fun by_ gv gc o e b=> ?_;simp only[d0B,c0R,List.cons_append,List.nil_append];have f:=l1X a.gr a.grl s.fr s.g at_ (t0T hi) b.1 b.2.1;rw[hb]at f;refine go 13 ?_;refine a0D (e0Q (ek:=a0H) (ev:=a0H) c0Y.o h0C (tt fun _=>trivial) trivial Zr.o rfl rfl gFd e0I) ?_;refine go 3 ?_;refine b0S rfl (decide_eq_false c) ?_;refine cg 10 (f) ?_;refine go 13 ?_;refine i0O (ek:=a0H) (ev:=a0H) (k:=at_) (v:=1) c0Y.o h0C (tt fun _=>trivial) trivial rfl rfl rfl (show Fnd _ (b0K a.refs a0H a0H s.refs) _ from gFd) ?_;refine go 7 ?_;refine b0U (c0W (s:= {s with g:=mvL s.fr s.g at_ 0 1,refs:=b0O at_ 1 s.refs}) e (by exact⟨b.1,by simpa [u0O] using b.2.1,u0P (by omega) b.2.2.1,b.2.2.2⟩) gSp) (n0M rfl idh rfl rfl gSp)
end Go.Proofs.Q

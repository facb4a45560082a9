/- Part of the proof; no statement of its own. -/
import Derived.Test.YtpinhnikemamjaaGreatDoorS18
import Derived.Test.YtpinhnikemamjaaGreatDoorS24
import Derived.Test.YtpinhnikemamjaaGreatDoorS21
set_option linter.all false
set_option maxRecDepth 4000
set_option maxHeartbeats 4000000
attribute [local irreducible] Go.Sl.a0P Go.Sl.OW Go.Sl.CW Go.Sl.OS Go.Sl.OM Go.Sl.OMf Go.Sl.KM
namespace Go.Proofs.Q
open Go.Sl Go.Sb Tryz
theorem q2I:prog.cellsOf 5=1:=by kernel_rfl
theorem f1M (b:Nat) (p v:Value) (l:B) (h0:l≠ []) (hl:l.length≤1000000):a0G prog 62 #[ptr b] (u0R b p v l) (a0T (b0C l) []):=by
 have hpos:0<l.length:=List.length_pos_iff.2 h0;refine en func62 ntmps62 fun R w0=> ?_;refine i0T (e:=5) gFd hpos fun g cap hv hc=> ?_;subst hv;refine go 6 ?_;refine mx (.r 0 4 (.r 5 5 (.hard 4 (.hard 10 (.soft 11 .done))))) [pts b (.cells #[p,.slice (some ⟨g,0,none⟩) l.length cap] 119 (0,0))] ?_;refine go 10 ?_;refine a0D (y1H rfl (by omega)) ?_;refine go 3 ?_;refine l1I Tryz.underlying197 q2I rfl rfl rfl gFd h0 (by omega) ?_;refine go 5 ?_;exact rG
theorem r1U (b:Nat) (p:Value):a0G prog 62 #[ptr b] [pts b (.cells #[p,.slice none 0 0] 119 (0,0))] (a0T (b0C []) []):=by
 refine en func62 ntmps62 fun R w0=> ?_;refine go 6 ?_;refine mx (.r 0 4 (.r 5 5 (.hard 4 (.hard 10 (.soft 11 .done))))) [pts b (.cells #[p,.slice none 0 0] 119 (0,0))] ?_;refine go 10 ?_;refine a0D (t1A rfl) ?_;refine go 3 ?_;refine a0D (l1H rfl rfl) ?_;refine go 5 ?_;exact rG
section
theorem w1D {d:Dk} (hd:l0N d) {at_:Int} {b:B} (h:n0U d at_= .ok b):b.length=64:=by
 unfold n0U at h;split at h
 ·cases h
 ·split at h
  ·cases h
  ·rename_i h1;simp only[Out.ok.injEq]at h;have hlt:at_.toNat<d.l.length:=by omega
   rw[List.getD_eq_getElem?_getD,List.getElem?_eq_getElem hlt]at h;have:=(hd.1 _ (List.getElem_mem hlt)).2;rw[←h];simp only[Option.getD_some];omega
theorem q2J {l:List Nat} {i:Nat} (h:i<l.length):l.getD i 0=l[i]:=by rw[List.getD_eq_getElem?_getD,List.getElem?_eq_getElem h];rfl
theorem c1X {l:List Int} {i:Nat} (h:i<l.length):l.getD i 0=l[i]:=by rw[List.getD_eq_getElem?_getD,List.getElem?_eq_getElem h];rfl
section
variable {x:Hd} {s t:St} {i:Nat} {acc b:B}
def s0K (x:Hd) (i:Nat) (acc:B) (s:St):Out B×St:=a0B (g0A x (4-i)) (fun r=>ret (acc++r)) s
theorem c1Y (h:i<4):s0K x i acc s=a0B (a0B (if 0<x.at_.getD i 0 then a0B (g0X (x.at_.getD i 0)) fun s=>if g0G s≠x.sums.getD i 0 then n0L 11 else ret s else ret (a0L 64)) fun s=>a0B (g0A x (4- (i+1))) fun r=>ret (s++r)) (fun r=>ret (acc++r)) s:=by
 unfold s0K;obtain⟨n,hn⟩: ∃n,4-i=n+1:=⟨4-i-1,by omega⟩;have hk:4- (n+1)=i:=by omega
 have hk2:4- (i+1)=n:=by omega
 rw[hn,hk2]
 conv=>lhs;unfold g0A
 simp only[hk]
theorem q1W (c:M B) {b:B} (hc:c s=(.ok b,s)):a0B (a0B c fun s=>a0B (g0A x (4- (i+1))) fun r=>ret (s++r)) (fun r=>ret (acc++r)) s=s0K x (i+1) (acc++b) s:=by
 unfold s0K a0B;rw[hc];simp only;cases g0A x (4- (i+1)) s with
 |mk o u=>
  cases o with
  |ok r=>simp only[ret,List.append_assoc]
  |err e=>rfl
  |big=>rfl
theorem q1X (c:M B) {e:Int} {t:St} (hc:c s=(.err e,t)):a0B (a0B c fun s=>a0B (g0A x (4- (i+1))) fun r=>ret (s++r)) (fun r=>ret (acc++r)) s=(.err e,t):=by
 unfold a0B;rw[hc]
theorem q2K {e:Int} (h:i<4) (h0:0<x.at_.getD i 0) (ho:g0X (x.at_.getD i 0) s=(.err e,t)):s0K x i acc s=(.err e,t):=by
 rw[c1Y h];exact q1X _ (by rw[if_pos h0];exact a0F ho)
theorem v2K (h:i<4) (h0:0<x.at_.getD i 0) (ho:g0X (x.at_.getD i 0) s=(.ok b,s)) (hc:g0G b≠x.sums.getD i 0):s0K x i acc s=(.err 11,s):=by
 rw[c1Y h];exact q1X _ (by rw[if_pos h0,a0A ho,if_pos hc];rfl)
theorem v2L (h:i<4) (h0:0<x.at_.getD i 0) (ho:g0X (x.at_.getD i 0) s=(.ok b,s)) (hc:g0G b=x.sums.getD i 0):s0K x i acc s=s0K x (i+1) (acc++b) s:=by
 rw[c1Y h];exact q1W _ (by rw[if_pos h0,a0A ho,if_neg (by simp[hc])];rfl)
theorem l2C (h:i<4) (h0: ¬0<x.at_.getD i 0):s0K x i acc s=s0K x (i+1) (acc++a0L 64) s:=by
 rw[c1Y h];exact q1W _ (by rw[if_neg h0];rfl)
theorem q2L:s0K x 4 acc s=(.ok acc,s):=by unfold s0K a0B g0A;simp[ret]
end
theorem y2F {acc:B} {i:Nat} (h:acc.length=64*i) (hi:0<i):acc≠ []:=by intro e;rw[e]at h;simp at h;omega
theorem y2G {x:Hd} {i k:Nat} (c1:(x.at_.map a0H).length=4) (h:i<x.sums.length) (hk:k=4+i):nth (hdL x) k=some (.int .u32 (x.sums[i]:Nat)):=by
 subst hk;unfold hdL;rw[e0F,List.getElem?_append_right (by omega),c1,Nat.add_sub_cancel_left,List.getElem?_append_left (by simpa using h),List.getElem?_map,List.getElem?_eq_getElem h];rfl
def j1U (b:Nat):Nat→Value
 |0=> .pointer none
 |_+1=>ptr b
theorem c2J (b i:Nat):j1U b i= .pointer none∨j1U b i=ptr b:=by cases i<;>simp[j1U]
set_option maxRecDepth 4000 in
theorem q1Y (W:World) (a:Ad) (s:St) (at_:Int):a0G prog 114 #[ptr a.st,.int .i64 at_] (RS W a s) (Ran fT (RS W a) b0C (l0D at_ s)):=by
 by_cases h0:at_=0
 ·subst h0;rw[show l0D 0 s=(.ok (a0L 256),s) by unfold l0D;rw[if_pos rfl];rfl];refine en func114 ntmps114 fun R w0=> ?_;refine cg 15 (a1X 256 (by omega)) ?_;refine go 3 ?_;exact rR idh rfl
 ·have e0:l0D at_ s=a0B (e0U at_) (fun x=>g0A x 4) s:=by unfold l0D;rw[if_neg h0]
  refine en func114 ntmps114 fun R w0=> ?_;refine n0N (p:=l0N s.d) gFd fun hdk=> ?_;refine go 12 ?_;refine b0S rfl (by simpa using h0) ?_;refine go 6 ?_;refine a0U rfl Hb.o rfl (t0Z W a s at_) gSp (fun x t ho=> ?_) (fun e t ho=>by refine pn ?_;exact kx ((by rw[e0];exact a0F ho)));refine ns ?_;obtain⟨hts,hln⟩:=p0E ho;rw[hts]at ho ⊢;have he0:l0D at_ s=s0K x 0 [] s:=by
   rw[e0,a0A ho];unfold s0K a0B;cases g0A x (4-0) s with
   |mk o u=>cases o<;>rfl
  have hsz:(hdL x).toArray.size=40:=by rw[List.size_toArray,u0Q hln]
  have c1:(x.at_.map a0H).length=4:=by simp[hln.n]
  have c2:(x.sums.map fun n:Nat=>Value.int .u32 n).length=4:=by simp[hln.m]
  refine al fun b5=> ?_;refine a0M Sz.o rfl rfl hsz (b1A x) (by rw[hsz];simp[Value.cells]) (a0N (by rw[hsz];simp[Value.cells])) ?_;refine go 4 ?_;refine al fun b6=> ?_;refine go 4 ?_;refine b0U (L':=u0R b6 (.pointer none) (.slice none 0 0) []++(pts b5 (.cells (hdL x).toArray 230 (0,0))::RS W a s++ [R])) (fun w hs=>(f0E 5 1 w hs).re gSp) ?_;refine ns ?_;refine go 2 ?_;refine a0D (a0K Ag.o rfl (by show 0+0+4≤(hdL x).toArray.size;rw[hsz];omega) (d0Y (a:= []) rfl c1)) ?_;refine go 4 ?_;refine a0V (X:= {y:Nat×B×Value // y.1≤4∧y.2.2.oneCell'=true∧y.2.1.length=64*y.1∧l0D at_ s=s0K x y.1 y.2.1 s}) (fun y=> [(0,ptr a.st),(5,ptr b5),(6,ptr b6),(17,.agg (x.at_.map a0H).toArray),(18,.int .i64 y.1.1)]) (fun y=>u0R b6 (j1U b6 y.1.1) y.1.2.2 y.1.2.1++(pts b5 (.cells (hdL x).toArray 230 (0,0))::RS W a s++ [R])) (fun y=>4-y.1.1) ⟨(0,[],.slice none 0 0),by omega,rfl,rfl,he0⟩ gSu gSp ?_;rintro⟨⟨i,acc,v⟩,hi,hv,hac,he⟩ m0 hm0
  try simp only at hm0
  try dsimp only
  simp only at hi hv hac he;refine ns ?_;refine go 6 ?_;refine a0O rfl (fun hb19=> ?_) (fun hb19=> ?_)
  ·have hi4:i<4:=by have:=of_decide_eq_true hb19;omega
   have hil:i<x.at_.length:=by rw[hln.n];exact hi4
   have him:i<x.sums.length:=by rw[hln.m];exact hi4
   have hgi:=c1X hil;have hgs:=q2J him;refine go 7 ?_;refine a0D (o0P Tar.o Sc.o rfl rfl (by omega) (i0E a0H x.at_ i _ hil (by omega))) ?_;refine cg 6 (a1X 64 (by omega)) ?_;refine go 10 ?_;refine a0O rfl (fun hb24=> ?_) (fun hb24=> ?_)
   ·have hpos:0<x.at_.getD i 0:=by rw[hgi];exact of_decide_eq_true hb24
    refine go 7 ?_;refine a0U rfl Hb.o rfl (f1E W a s x.at_[i]) gSp (fun bb t ho=> ?_) (fun e t ho=>by refine pn ?_;exact kx ((by rw[he];exact q2K hi4 hpos (by rw[hgi];exact ho))));refine ns ?_;obtain⟨hts,hrd⟩:=x0M ho;rw[hts]at ho ⊢;have hb64:=w1D hdk hrd;refine go 4 ?_;refine mx (.soft 0 (.r 3 4 (.hard 1 (.hard 2 (.soft 7 .done))))) [pts b5 (.cells (hdL x).toArray 230 (0,0))] ?_;refine go 4 ?_;refine d0A rfl (b0N Sc.o rfl (y2G c1 him (by omega))) ?_;refine go 1 ?_;refine bl fun b32=> ?_;refine cg 3 (s0V b32 1 (bs bb) (by rw[b0H,hb64];simp[maxLen])) ?_;refine go 5 ?_;refine a0O rfl (fun hb38=> ?_) (fun hb38=> ?_)
    ·refine go 1 ?_;refine c0A rfl Hb.o rfl (c0M 11) gSp ?_;refine ns ?_;refine pn ?_;exact b0W (by rw[he];exact v2K hi4 hpos (by rw[hgi];exact ho) (by rw[hgs];have h:=hb38;simp only[bne_iff_ne,ne_eq]at h;unfold g0G;omega)) idh gSp
    ·have hcr:g0G bb=x.sums.getD i 0:=by rw[hgs];have h:=hb38;simp only[bne_eq_false_iff_eq]at h;unfold g0G;omega
     refine ce 4 (c1W b6 (j1U b6 i) v (c2J b6 i) acc bb (by rw[hac];omega) (by omega)) ?_;rintro v41 hv41;refine ns ?_;refine go 6 ?_;exact rd idh (⟨(i+1,acc++bb,v41),hi4,hv41,by rw[List.length_append,hac,hb64];omega,he.trans (v2L hi4 hpos (by rw[hgi];exact ho) hcr)⟩)
   ·have hpos: ¬0<x.at_.getD i 0:=by rw[hgi];exact of_decide_eq_false hb24
    refine ce 4 (c1W b6 (j1U b6 i) v (c2J b6 i) acc (a0L 64) (by rw[hac];omega) (by simp[a0L])) ?_;rintro v41 hv41;refine ns ?_;refine go 6 ?_;exact rd idh (⟨(i+1,acc++a0L 64,v41),hi4,hv41,by rw[List.length_append,hac];simp[a0L];omega,he.trans (l2C hi4 hpos)⟩)
  ·obtain rfl:i=4:=by have:=of_decide_eq_false hb19;omega
   refine cg 4 (f1M b6 (j1U b6 4) v acc (y2F hac (by omega)) (by rw[hac];omega)) ?_;refine go 3 ?_;exact rR idh (he.trans q2L)
end
section
theorem w1E {s:St} (k:B) (h:s.log.length<1000000000):h0O k s=(.ok (),{s with log:=bk s.depth s.log (.index k (a0C k s.index)),index:=b0D k s.index}):=by
 simp[h0O,a0B,back,show ¬1000000000≤s.log.length by omega]
theorem z1M {s:St} (k:B) (v:Int) (h:s.log.length<1000000000):f0F k v s=(.ok (),{s with log:=bk s.depth s.log (.index k (a0C k s.index)),index:=b0O k v s.index}):=by
 simp[f0F,a0B,back,show ¬1000000000≤s.log.length by omega]
def PB {α:Type} (m:M α):Prop:= ∀s,(m s).2.bits=s.bits
theorem b0L {α β:Type} {m:M α} {f:α→M β} (h:PB m) (hf: ∀a,PB (f a)):PB (a0B m f):=fun s=>by
 unfold a0B;have h1:=h s;cases e:m s with
 |mk o t=>
  rw[e]at h1;cases o with
  |ok a=>exact(hf a t).trans h1
  |err e=>exact h1
  |big=>exact h1
theorem c0V {α:Type} (a:α):PB (ret a:M α):=fun _=>rfl
theorem o1S (st:c0U):PB (back st):=fun s=>by unfold back;split<;>rfl
theorem m1M {α:Type} {m:St→M α} (h: ∀s,PB (m s)):PB (fun s=>m s s):=fun s=>h s s
theorem s0W (st:St→c0U) (f:St→St) (hf: ∀s,(f s).bits=s.bits):PB (a0B (fun s=>back (st s) s) fun _ s=>(.ok (),f s)):=b0L (m1M (m:=fun s=>back (st s)) fun _=>o1S _) fun _ s=>hf s
theorem c1Z (k v:Int):PB (h0I k v):=s0W _ (fun s=> {s with refs:=b0O k v s.refs}) fun _=>rfl
theorem z1N (k:Int):PB (l0B k):=s0W _ (fun s=> {s with refs:=b0D k s.refs}) fun _=>rfl
theorem z1O (k v:Int):PB (m0E k v):=s0W _ (fun s=> {s with young:=b0O k v s.young}) fun _=>rfl
theorem w1F (k:Int):PB (f0M k):=s0W _ (fun s=> {s with young:=b0D k s.young}) fun _=>rfl
theorem g2A (l:List Int):PB (h0X l):=fun s=>by
 unfold h0X;split
 ·rfl
 ·exact s0W (fun s=> .gone s.gone) (fun s=> {s with gone:=l}) (fun _=>rfl) s
theorem u0S (k:Int):PB (e0G k):=fun s=>by
 unfold e0G;split
 ·rfl
 ·split
  ·rfl
  ·split
   ·refine b0L (z1N k) (fun _=>b0L (fun s=>o1S (.back k) {s with g:=mvL s.fr s.g k 1 2}) fun _=>b0L (fun s=> ?_) fun _=>c0V true) s;split
    ·exact b0L (w1F k) (fun _=>m1M (m:=fun s=>h0X (s.gone++ [k])) fun _=>g2A _) s
    ·rfl
   ·exact b0L (c1Z k _) (fun _=>c0V false) s
theorem v2M (f:Dk→Out Unit×Dk):PB (t0G f):=fun s=>by unfold t0G;cases f s.d;rfl
theorem s0X (b:B):PB (e0S b):=fun s=>by
 unfold e0S;split
 ·rfl
 ·exact b0L (fun s=>o1S _ {s with g:=h0M s.g}) (fun _=>b0L (c1Z _ _) fun _=>b0L (z1O _ _) fun _=>b0L (v2M _) fun _=>c0V _) s
def r0S (x:Hd) (l:List Int) (s:St):Out Unit×St:=a0B (d0V j0K l) (fun _ s=>h0O (key s.bits x.sum) s) s
section
variable {x:Hd} {k:Int} {l:List Int} {s t:St}
theorem l2D (h:(r0S x (k::l) s).1≠ .big) (hk:0<k):(e0G k s).1≠ .big:=by
 have h1:=c0I h;unfold d0V at h1;have h2:=c0I h1;unfold j0K at h2;rw[if_pos hk]at h2;exact c0I h2
theorem l2E {e:Int} (hk:0<k) (ho:e0G k s=(.err e,t)):r0S x (k::l) s=(.err e,t):=by
 unfold r0S d0V;rw[a0F];rw[a0F];unfold j0K;rw[if_pos hk,a0F ho]
theorem q2M {b:Bool} (hk:0<k) (ho:e0G k s=(.ok b,t)):r0S x (k::l) s=r0S x l t:=by
 have h1:j0K k s=(.ok (),t):=by unfold j0K;rw[if_pos hk,a0A ho];rfl
 unfold r0S
 conv=>lhs;unfold d0V
 unfold a0B;rw[h1]
theorem g2B (hk: ¬0<k):r0S x (k::l) s=r0S x l s:=by
 have h1:j0K k s=(.ok (),s):=by unfold j0K;rw[if_neg hk];rfl
 unfold r0S
 conv=>lhs;unfold d0V
 unfold a0B;rw[h1]
theorem l2F:r0S x [] s=h0O (key s.bits x.sum) s:=by unfold r0S d0V;rw[a0A (show(ret ():M Unit) s=(.ok (),s)from rfl)]
theorem r1V {k:B} (h:(h0O k s).1≠ .big):s.log.length<1000000000:=t0W h fun h'=>by simp[h0O,a0B,back,h']
end
theorem w1G {K V:Type} [DecidableEq K] {k:K} {p:K×V} : ∀ {m:List (K×V)},p∈b0D k m→p∈m
 | [],h=>h
 | (j,u)::m,h=>by
  unfold b0D at h;split at h
  ·exact List.mem_cons_of_mem _ h
  ·rcases List.mem_cons.1 h with h|h
   ·rw[h];exact List.mem_cons_self ..
   ·exact List.mem_cons_of_mem _ (w1G h)
theorem c2K {x:Hd} (hln:z0I x):(hdL x).toArray.extract (0+8) (0+8+32)=(x.sum.map a0Q).toArray:=by
 rw[show hdL x=(x.at_.map a0H++(x.sums.map fun n:Nat=>Value.int .u32 n))++(x.sum.map a0Q++ []) by simp[hdL]];exact d0Y (by rw[List.length_append,List.length_map,List.length_map,hln.n,hln.m]) (by rw[List.length_map,hln.sum])
set_option maxRecDepth 4000 in
theorem d1A (W:World) (a:Ad) (s:St) (at_:Int) (hbits:s.bits≤256) (hnb:(g0O at_ s).1≠ .big):a0G prog 196 #[ptr a.st,.int .i64 at_] (RS W a s) (Ran fT (RS W a) i0S (g0O at_ s)):=by
 by_cases h0:at_=0
 ·subst h0;rw[show g0O 0 s=(.ok (),s) by unfold g0O;rw[if_pos rfl];rfl];refine en func196 ntmps196 fun R w0=> ?_;refine go 8 ?_;exact rR idh rfl
 ·have e0:g0O at_ s=a0B (e0U at_) (fun x=>a0B (e0G at_) fun b=>if b then a0B (d0V j0K x.at_) fun _ s=>h0O (key s.bits x.sum) s else ret ()) s:=by unfold g0O;rw[if_neg h0]
  refine en func196 ntmps196 fun R w0=> ?_;refine go 7 ?_;refine b0S rfl (by simpa using h0) ?_;refine go 6 ?_;refine a0U rfl Hb.o rfl (t0Z W a s at_) gSp (fun x t ho=> ?_) (fun e t ho=>by refine pn ?_;exact kx ((by rw[e0];exact a0F ho)));refine ns ?_;obtain⟨hts,hln⟩:=p0E ho;rw[hts]at ho ⊢;rw[a0A ho]at e0;have hsz:(hdL x).toArray.size=40:=by rw[List.size_toArray,u0Q hln]
  have c1:(x.at_.map a0H).length=4:=by simp[hln.n]
  have hnb1:(e0G at_ s).1≠ .big:=by rw[e0]at hnb;exact c0I hnb
  refine al fun b4=> ?_;refine a0M Sz.o rfl rfl hsz (b1A x) (by rw[hsz];simp[Value.cells]) (a0N (by rw[hsz];simp[Value.cells])) ?_;refine go 10 ?_;refine a0U rfl Hb.o rfl (c1U W a s at_ hnb1) gSp (fun b t ho=> ?_) (fun e t ho=>by refine pn ?_;exact kx ((by rw[e0];exact a0F ho)));refine ns ?_;have ho17:=ho;rw[a0A ho17]at e0;refine go 3 ?_;refine a0O rfl (fun hb18=> ?_) (fun hb18=> ?_)
  ·have hbf:b=false:=by simpa using hb18
   exact rR idh (by rw[e0,hbf];rfl)
  ·have hbt:b=true:=by simpa using hb18
   have he0:g0O at_ s=r0S x (x.at_.drop 0) t:=by rw[e0,hbt];rfl
   refine go 6 ?_;refine a0D (a0K Ag.o rfl (by show 0+0+4≤(hdL x).toArray.size;rw[hsz];omega) (d0Y (a:= []) rfl c1)) ?_;refine go 4 ?_;refine a0V (X:= {y:Nat×St // y.1≤4∧y.2.bits=s.bits∧g0O at_ s=r0S x (x.at_.drop y.1) y.2}) (fun y=> [(0,ptr a.st),(4,ptr b4),(20,.agg (x.at_.map a0H).toArray),(21,.int .i64 y.1.1)]) (fun y=>RS W a y.1.2++ [pts b4 (.cells (hdL x).toArray 230 (0,0)),R]) (fun y=>4-y.1.1) ⟨(0,t),by omega,by have:=u0S at_ s;rw[ho17]at this;exact this,he0⟩ gSu gSp ?_;rintro⟨⟨i,u⟩,hi,hub,he⟩ m0 hm0
   try simp only at hm0
   try dsimp only
   simp only at hi hub he;refine ns ?_;refine go 6 ?_;refine a0O rfl (fun hb22=> ?_) (fun hb22=> ?_)
   ·have hi4:i<4:=by have:=of_decide_eq_true hb22;omega
    have hil:i<x.at_.length:=by rw[hln.n];exact hi4
    rw[List.drop_eq_getElem_cons hil]at he;refine go 6 ?_;refine a0D (o0P Tar.o Sc.o rfl rfl (by omega) (i0E a0H x.at_ i _ hil (by omega))) ?_;refine go 9 ?_;refine a0O rfl (fun hb25=> ?_) (fun hb25=> ?_)
    ·have hpos:0<x.at_[i]:=of_decide_eq_true hb25;refine go 6 ?_;refine a0U rfl Hb.o rfl (c1U W a u x.at_[i] (by rw[he]at hnb;exact l2D hnb hpos)) gSp (fun b' t' ho=> ?_) (fun e t ho=>by refine pn ?_;exact kx ((by rw[he];exact l2E hpos ho)));refine ns ?_;refine go 6 ?_;exact rd idh (⟨(i+1,t'),hi4,by have:=u0S x.at_[i] u;rw[ho]at this;exact this.trans hub,he.trans (q2M hpos ho)⟩)
    ·have hpos: ¬0<x.at_[i]:=of_decide_eq_false hb25;refine go 6 ?_;exact rd idh (⟨(i+1,u),hi4,hub,he.trans (g2B hpos)⟩)
   ·obtain rfl:i=4:=by have:=of_decide_eq_false hb22;omega
    rw[List.drop_eq_nil_of_le (by rw[hln.n];exact Nat.le_refl _),l2F]at he;have hlog:=r1V (show(h0O (key u.bits x.sum) u).1≠ .big by rw[←he];exact hnb);rw[w1E _ hlog]at he;refine go 2 ?_;refine e0C gFd fun by_ gv gc o hg hok=> ?_;simp only[d0B,c0R,List.cons_append,List.nil_append];refine mx (.r 0 17 (.hard 17 (.hard 18 .done))) [stC a u.bits,pts a.heap (.cells #[ptr a.disk,ptr a.log,ptr a.gr,.map (some a.refs),.map (some by_),gv,.int .i64 u.keep] 92 (0,0)),pts b4 (.cells (hdL x).toArray 230 (0,0))] ?_;refine go 12 ?_;refine d0A rfl (a0K (cs:=(hdL x).toArray) (v:=(x.sum.map a0Q).toArray) Ag.o rfl (by rw[hsz];omega) (c2K hln)) ?_;refine cg 5 (t0Y x.sum u.bits hln.sum (by omega)) ?_;refine ce 3 (v1D a by_ o u.log u.depth u.index (c0O u.bits x.sum) hlog hok.2.2.2 (by rw[h0T,hln.sum])) ?_;rintro e _;refine ns ?_;refine go 3 ?_;refine b0F (c0W (s:= {u with log:=bk u.depth u.log (.index (key u.bits x.sum) (a0C (key u.bits x.sum) u.index)),index:=b0D (key u.bits x.sum) u.index}) hg (by exact⟨hok.1,hok.2.1,hok.2.2.1,fun p hp=>hok.2.2.2 p (w1G hp)⟩) gSp) (x0B he rfl rfl gSp)
end
theorem l2G (a b:B):(!((bs a).toList == (bs b).toList))=decide (a≠b):=by
 rw[c0G,c0G];by_cases e:a=b
 ·subst e;simp
 ·simp[e]
set_option maxRecDepth 4000 in
theorem g2C (W:World) (a:Ad) (s:St) (data:B) (hl:data.length≤1000000) (h256:data.length≠256∨a0R data=true):a0G prog 164 #[ptr a.st,b0C data] (RS W a s) (Ran fT (RS W a) a0H (j0E data s)):=by
 by_cases h0:data.length=256
 ·have hz:a0R data=true:=h256.resolve_left (fun h=>h h0);rw[show j0E data s=(.ok 0,s) by unfold j0E;rw[if_neg (by simp[h0]),if_pos hz];rfl];refine en func164 ntmps164 fun R w0=> ?_;refine go 10 ?_;rw[b0H];refine go 3 ?_;refine b0S rfl (by rw[h0];rfl) ?_;refine cg 6 (z0H data (by omega)) ?_;refine go 8 ?_;exact rR idh rfl
 ·rw[show j0E data s=(.err 4,s) by unfold j0E;rw[if_pos h0];rfl];refine en func164 ntmps164 fun R w0=> ?_;refine go 10 ?_;rw[b0H];refine go 3 ?_;refine d0P rfl (by simp only[bne_iff_ne,ne_eq];omega) ?_;refine go 1 ?_;refine c0A rfl Hb.o rfl (c0M 4) gSp ?_;refine ns ?_;refine pn ?_;exact b0W rfl idh gSp
set_option maxRecDepth 4000 in
theorem g2D (W:World) (hW:i0L W) (a:Ad) (s:St) (data:B) (h256:data.length=256) (hz:a0R data=false) (hbits:s.bits≤256) (a0:Int) (hm:a0C (key s.bits (Sha.sum data)) s.index=some a0) (hnb:(j0E data s).1≠ .big):
 a0G prog 164 #[ptr a.st,b0C data] (RS W a s) (Ran fT (RS W a) a0H (j0E data s)):=by
 have e0:j0E data s=a0B (l0D a0) (fun was=>if was≠data then n0L 9 else a0B (k0S a0) fun _=>ret a0) s:=by
  unfold j0E;rw[if_neg (by simp[h256]),if_neg (by simp[hz])];simp only[hm]
 have hD:=p0Z data;have hs2:((Sha.sum data).map a0Q).toArray.size=32:=by rw[List.size_toArray,List.length_map,hD]
 refine en func164 ntmps164 fun R w0=> ?_;refine go 10 ?_;rw[b0H];refine go 3 ?_;refine b0S rfl (by rw[h256];rfl) ?_;refine cg 6 (z0H data (by omega)) ?_;refine go 8 ?_;refine bl fun b19=> ?_;refine e0X (fun w hs=>o1Q (n:=1) (b:=b19) (l:= [b0C data]) (e:=9) rfl ((show Fnd _ (pts b19 _) _ from gFd).sat hs) (by simp[maxLen])) ?_;refine cg 0 (o1P W hW (.slice (some ⟨b19,0,none⟩) 1 1) [data] (by simp[h256]) (by simp)) ?_;rw[show [data].flatten=data by simp];refine al fun b5=> ?_;refine a0M Sz.o rfl rfl hs2 (fun x hx=>by simp at hx;obtain⟨_,_,rfl⟩:=hx;rfl) (by rw[hs2];simp[Value.cells]) (a0N (by rw[hs2];simp[Value.cells])) ?_;refine go 4 ?_;refine e0C gFd fun by_ gv gc o hg hok=> ?_;simp only[d0B,c0R,List.cons_append,List.nil_append];refine mx (.r 0 9 (.hard 9 (.r 10 6 .done))) [stC a s.bits,pts b5 (.cells ((Sha.sum data).map a0Q).toArray 44 (0,0)),b0K a.ix d0X a0H s.index] ?_;refine go 4 ?_;refine d0A rfl (a0K Ag.o rfl (by rw[hs2];omega) (a0I hs2)) ?_;refine cg 5 (t0Y (Sha.sum data) s.bits hD hbits) ?_;refine go 2 ?_;refine d0A rfl (o0W (ek:=d0X) (ev:=a0H) (k:=c0O s.bits (Sha.sum data)) c0Y.o y0J hok.2.2.2 (by rw[h0T,hD]) Zr.o rfl rfl gFd e0I) ?_;refine go 6 ?_;refine b0F (c0W hg hok gSp) ?_;rw[show a0C (c0O s.bits (Sha.sum data)) s.index=some a0 from hm];refine go 12 ?_;refine a0U rfl Hb.o rfl (q1Y W a s a0) gSp (fun was t ho=> ?_) (fun e t ho=>by refine pn ?_;exact kx ((by rw[e0];exact a0F ho)));refine ns ?_;refine go 1 ?_;rw[a0A ho]at e0;refine a0D (i0M rfl rfl) ?_;refine go 2 ?_;refine a0O rfl (fun hb40=> ?_) (fun hb40=> ?_)
 ·refine go 1 ?_;refine c0A rfl Hb.o rfl (c0M 9) gSp ?_;refine ns ?_;refine pn ?_;exact b0W (by rw[e0];have hne:was≠data:=of_decide_eq_true ((l2G was data).symm.trans hb40);rw[if_pos hne];rfl) idh gSp
 ·have hne: ¬was≠data:=of_decide_eq_false ((l2G was data).symm.trans hb40);rw[if_neg hne]at e0;refine go 9 ?_;skip;refine a0U rfl Hb.o rfl (c1S W a t a0 (by rw[e0]at hnb;exact c0I hnb)) gSp (fun u t2 ho=> ?_) (fun e t ho=>by refine pn ?_;exact kx ((by rw[e0];exact a0F ho)));refine ns ?_;refine go 8 ?_;exact rR idh (by rw[e0,a0A ho];rfl)
section
abbrev RSb (W:World) (a:Ad) (bits:Nat) (s:St):List a0E:= [whole W,dkC a s.d,dkR a s.d,m0X (l0N s.d),stC a bits,mpC a,HL a s]
theorem w1H {W:World} {a:Ad} {bits:Nat} {α:Type} {val:α→Value} {o:Out α×St} {e:Ending} {L:List a0E} (h:o.2.bits=bits):Ran fT (RSb W a bits) val o e L↔Ran fT (RS W a) val o e L:=by
 obtain⟨o,t⟩:=o;have h:t.bits=bits:=h;subst h;cases o<;>exact Iff.rfl
theorem _root_.Go.Sl.a0G.mono_ran {P:Program} {f:FuncId} {args:Array Value} {Pre:List a0E} {Post Post':Ending→List a0E→Prop} (h:a0G P f args Pre Post) (hp: ∀e L,Post e L→Post' e L):a0G P f args Pre Post':=by
 intro w F hs;refine(h w F hs).mono ?_;rintro e w' ⟨L',h1,h2⟩;exact⟨L',hp _ _ h1,h2⟩
theorem j1V (data:B): ∀n,PB (n0I data n)
 |0=>c0V _
 |n+1=>by
  unfold n0I;refine b0L ?_ fun p=>b0L (j1V data n) fun r=>c0V _;split
  ·exact c0V _
  ·exact b0L (s0X _) fun _=>c0V _
theorem i1A (k:B) (v:Int):PB (f0F k v):=s0W _ (fun s=> {s with index:=b0O k v s.index}) fun _=>rfl
theorem l2H (W:World) (a:Ad) (s:St) (b:B) (bits:Nat) (hb:b.length≤1000000) (hbits:s.bits=bits) (hnb:(e0S b s).1≠ .big):a0G prog 202 #[ptr a.heap,b0C b] (RSb W a bits s) (Ran fT (RSb W a bits) a0H (e0S b s)):=by
 subst hbits;exact(q1J W a s b hb hnb).mono_ran (fun e L h=>(w1H (s0X b s)).2 h)
def a1C (ps:List (Int×Nat)):List (Int×Nat):=ps++List.replicate (4-ps.length) (0,0)
def hdP (data:B) (ps:List (Int×Nat)):Hd:= {at_:=(a1C ps).map (·.1),sums:=(a1C ps).map (·.2),sum:=Sha.sum data}
theorem l2I {ps:List (Int×Nat)} (h:ps.length<4):a1C (ps++ [(0,0)])=a1C ps:=by
 unfold a1C;obtain⟨m,hm⟩: ∃m,4-ps.length=m+1:=⟨4-ps.length-1,by omega⟩;rw[List.length_append,hm,List.replicate_succ,List.append_assoc];simp only[List.length_cons,List.length_nil,List.singleton_append];rw[show 4- (ps.length+(0+1))=m by omega]
theorem w1I {ps:List (Int×Nat)} (h:ps.length≤4):(a1C ps).length=4:=by unfold a1C;simp;omega
theorem j1W {data:B} {ps:List (Int×Nat)} (h:ps.length≤4) (hc: ∀p∈ps,p.2<4294967296):z0I (hdP data ps):=by
 refine⟨by simp[hdP,w1I h],by simp[hdP,w1I h],fun c hcm=> ?_,p0Z data⟩;simp only[hdP,List.mem_map]at hcm;obtain⟨p,hp,rfl⟩:=hcm;unfold a1C at hp;rcases List.mem_append.1 hp with hp|hp
 ·exact hc p hp
 ·rw[List.eq_of_mem_replicate hp];decide
theorem q2N {data:B} {ps:List (Int×Nat)} (h:ps.length=4):hdP data ps= {at_:=ps.map (·.1),sums:=ps.map (·.2),sum:=Sha.sum data} :=by
 unfold hdP a1C;rw[h];simp
theorem c2L {data:B} {ps:List (Int×Nat)} {i o1 o2:Nat} {x:Int} {c:Nat} (h:ps.length=i) (hi:i<4) (h1:o1=i) (h2:o2=4+i):((hdL (hdP data ps)).set o1 (a0H x)).set o2 (.int .u32 (c:Nat))=hdL (hdP data (ps++ [(x,c)])):=by
 subst h1 h2;unfold hdL hdP a1C
 match ps,h,hi with
 | [],h,_=>subst h;rfl
 | [p],h,_=>subst h;rfl
 | [p,q],h,_=>subst h;rfl
 | [p,q,r],h,_=>subst h;rfl
 |_::_::_::_::_,h,hi=>simp only[List.length_cons]at h;omega
def s0L (data:B) (i:Nat) (ps:List (Int×Nat)) (s:St):Out Int×St:=a0B (n0I data (4-i)) (fun r=>a0B (e0S (h0Z {at_:=(ps++r).map (·.1),sums:=(ps++r).map (·.2),sum:=Sha.sum data})) fun a=>a0B (fun s=>f0F (key s.bits (Sha.sum data)) a s) fun _=>ret a) s
section
variable {data:B} {i:Nat} {ps:List (Int×Nat)} {s t:St}
theorem d1B (h:i<4):s0L data i ps s=a0B (a0B (if a0R (Go.Sb.part data i)then ret (0,0)else a0B (e0S (Go.Sb.part data i)) fun a=>ret (a,g0G (Go.Sb.part data i))) fun p=>a0B (n0I data (4- (i+1))) fun r=>ret (p::r)) (fun r=>a0B (e0S (h0Z {at_:=(ps++r).map (·.1),sums:=(ps++r).map (·.2),sum:=Sha.sum data})) fun a=>a0B (fun s=>f0F (key s.bits (Sha.sum data)) a s) fun _=>ret a) s:=by
 unfold s0L;obtain⟨n,hn⟩: ∃n,4-i=n+1:=⟨4-i-1,by omega⟩;have hk:4- (n+1)=i:=by omega
 have hk2:4- (i+1)=n:=by omega
 rw[hn,hk2]
 conv=>lhs;unfold n0I
 simp only[hk]
theorem q1Z (c:M (Int×Nat)) {p:Int×Nat} (hc:c s=(.ok p,t)):a0B (a0B c fun p=>a0B (n0I data (4- (i+1))) fun r=>ret (p::r)) (fun r=>a0B (e0S (h0Z {at_:=(ps++r).map (·.1),sums:=(ps++r).map (·.2),sum:=Sha.sum data})) fun a=>a0B (fun s=>f0F (key s.bits (Sha.sum data)) a s) fun _=>ret a) s=s0L data (i+1) (ps++ [p]) t:=by
 unfold s0L;simp only[List.append_assoc,List.singleton_append];unfold a0B;rw[hc];simp only;cases n0I data (4- (i+1)) t with
 |mk o u=>cases o<;>rfl
theorem l2J (h:i<4) (hz:a0R (Go.Sb.part data i)=true):s0L data i ps s=s0L data (i+1) (ps++ [(0,0)]) s:=by
 rw[d1B h];exact q1Z _ (by rw[if_pos hz];rfl)
theorem v2N {a:Int} (h:i<4) (hz:a0R (Go.Sb.part data i)=false) (ho:e0S (Go.Sb.part data i) s=(.ok a,t)):s0L data i ps s=s0L data (i+1) (ps++ [(a,g0G (Go.Sb.part data i))]) t:=by
 rw[d1B h];exact q1Z _ (by rw[if_neg (by simp[hz]),a0A ho];rfl)
theorem q2O {e:Int} (h:i<4) (hz:a0R (Go.Sb.part data i)=false) (ho:e0S (Go.Sb.part data i) s=(.err e,t)):s0L data i ps s=(.err e,t):=by
 rw[d1B h];rw[a0F];rw[a0F];rw[if_neg (by simp[hz]),a0F ho]
theorem q2P (h:i<4) (hz:a0R (Go.Sb.part data i)=false) (hnb:(s0L data i ps s).1≠ .big):(e0S (Go.Sb.part data i) s).1≠ .big:=by
 rw[d1B h]at hnb;have h1:=c0I (c0I hnb);rw[if_neg (by simp[hz])]at h1;exact c0I h1
theorem q2Q (h:ps.length=4):s0L data 4 ps s=a0B (e0S (h0Z (hdP data ps))) (fun a=>a0B (fun s=>f0F (key s.bits (Sha.sum data)) a s) fun _=>ret a) s:=by
 unfold s0L;rw[a0A (show n0I data (4-4) s=(.ok [],s)from rfl),List.append_nil,q2N h]
theorem w1J {k:B} {v:Int} (h:(f0F k v s).1≠ .big):s.log.length<1000000000:=t0W h fun h'=>by simp[f0F,a0B,back,h']
end
theorem w1K {K V:Type} [DecidableEq K] {k:K} {v:V} {p:K×V} : ∀ {m:List (K×V)},p∈b0O k v m→p=(k,v)∨p∈m
 | [],h=>by simpa [b0O] using h
 | (j,u)::m,h=>by
  unfold b0O at h;split at h
  ·rcases List.mem_cons.1 h with h|h
   ·exact .inl h
   ·exact .inr (List.mem_cons_of_mem _ h)
  ·rcases List.mem_cons.1 h with h|h
   ·exact .inr (by rw[h];exact List.mem_cons_self ..)
   ·rcases w1K h with h|h
    ·exact .inl h
    ·exact .inr (List.mem_cons_of_mem _ h)
theorem q2R {data:B} {i lo hi:Nat} (h1:lo=64*i) (h2:hi=64*i+64):(bs data).extract lo hi=bs (Go.Sb.part data i):=by
 subst h1 h2;rw[l1V,List.drop_take,show 64*i+64-64*i=64 by omega];rfl
theorem w1L {place:Nat→Option (Nat×Nat)} {i off size:Nat} {vs cs:List Value} (h:place i=some (off,size)) (h1:vs.length=size) (h2:off+size≤cs.length):m0O place cs [(i,vs)]=some (cs.take off++(vs++cs.drop (off+size))):=by
 unfold m0O;rw[h];simp only[m0O];rw[show(Nat.beq vs.length size&&Nat.ble (off+vs.length) cs.length)=true by simp[h1,h2],h1]
theorem f1N {b:B} (h:b.length≤60):(v0C b).length=64:=by unfold v0C;rw[List.length_append,q0T h,m0P]
theorem v2O {x:Hd} (h:z0I x):(h0Z x).length=64:=by
 unfold h0Z;refine f1N ?_;rw[List.length_append,List.length_append,List.length_append,i0J (k:=2) (fun a=>k0H a 2),i0J (k:=4) (fun a=>m0P a 4 4),h.n,h.m,h.sum];decide
set_option maxRecDepth 8000 in
theorem q2S (W:World) (hW:i0L W) (a:Ad) (s:St) (data:B) (h256:data.length=256) (hz:a0R data=false) (hbits:s.bits≤256) (hm:a0C (key s.bits (Sha.sum data)) s.index=none) (hnb:(j0E data s).1≠ .big):
 a0G prog 164 #[ptr a.st,b0C data] (RS W a s) (Ran fT (RS W a) a0H (j0E data s)):=by
 have e0':j0E data s=s0L data 0 [] s:=by
  unfold j0E;rw[if_neg (by simp[h256]),if_neg (by simp[hz])];simp only[hm];rfl
 have hpb:(j0E data s).2.bits=s.bits:=by
  rw[e0'];exact b0L (j1V data 4) (fun r=>b0L (s0X _) fun a=>b0L (m1M (m:=fun s=>f0F (key s.bits (Sha.sum data)) a) fun _=>i1A _ _) fun _=>c0V _) s
 refine a0G.mono_ran (Post:=Ran fT (RSb W a s.bits) a0H (j0E data s)) ?_ (fun e L h=>(w1H hpb).1 h);have hsz0:(hdL (hdP data [])).toArray.size=40:=by rw[List.size_toArray,u0Q (j1W (by simp) (by simp))]
 have e0:j0E data s=s0L data 0 [] s:=by
  unfold j0E;rw[if_neg (by simp[h256]),if_neg (by simp[hz])];simp only[hm];rfl
 have hD:=p0Z data;have hs2:((Sha.sum data).map a0Q).toArray.size=32:=by rw[List.size_toArray,List.length_map,hD]
 refine en func164 ntmps164 fun R w0=> ?_;refine go 10 ?_;rw[b0H];refine go 3 ?_;refine b0S rfl (by rw[h256];rfl) ?_;refine cg 6 (z0H data (by omega)) ?_;refine go 8 ?_;refine bl fun b19=> ?_;refine e0X (fun w hs=>o1Q (n:=1) (b:=b19) (l:= [b0C data]) (e:=9) rfl ((show Fnd _ (pts b19 _) _ from gFd).sat hs) (by simp[maxLen])) ?_;refine cg 0 (o1P W hW (.slice (some ⟨b19,0,none⟩) 1 1) [data] (by simp[h256]) (by simp)) ?_;rw[show [data].flatten=data by simp];refine al fun b5=> ?_;refine a0M Sz.o rfl rfl hs2 (fun x hx=>by simp at hx;obtain⟨_,_,rfl⟩:=hx;rfl) (by rw[hs2];simp[Value.cells]) (a0N (by rw[hs2];simp[Value.cells])) ?_;refine go 4 ?_;refine e0C gFd fun by_ gv gc o hg hok=> ?_;simp only[d0B,c0R,List.cons_append,List.nil_append];refine mx (.r 0 9 (.hard 9 (.r 10 6 .done))) [stC a s.bits,pts b5 (.cells ((Sha.sum data).map a0Q).toArray 44 (0,0)),b0K a.ix d0X a0H s.index] ?_;refine go 4 ?_;refine d0A rfl (a0K Ag.o rfl (by rw[hs2];omega) (a0I hs2)) ?_;refine cg 5 (t0Y (Sha.sum data) s.bits hD hbits) ?_;refine go 2 ?_;refine d0A rfl (o0W (ek:=d0X) (ev:=a0H) (k:=c0O s.bits (Sha.sum data)) c0Y.o y0J hok.2.2.2 (by rw[h0T,hD]) Zr.o rfl rfl gFd e0I) ?_;refine go 6 ?_;refine b0F (c0W hg hok gSp) ?_;rw[show a0C (c0O s.bits (Sha.sum data)) s.index=none from hm];refine go 11 ?_;refine a0D (a0K Ag.o rfl (by rw[hs2];omega) (a0I hs2)) ?_;refine a0D (s0P (cs:=hdL (hdP data [])) Pl.o rfl ((w1L (i:=2) (off:=8) (size:=32) (vs:=(Sha.sum data).map a0Q) rfl (by simp[hD]) (by exact Nat.le_refl 40)).trans (congrArg some (show(List.replicate 4 (a0H 0)++List.replicate 4 (Value.int .u32 0))++((Sha.sum data).map a0Q++ [])=_ by rw[List.append_nil];rfl)))) ?_;refine al fun b8=> ?_;refine a0M Sz.o rfl rfl hsz0 (b1A _) (by rw[hsz0];exact Nat.le_refl 40) (a0N (by rw[hsz0];rfl)) ?_;refine go 9 ?_;refine a0V (X:= {y:Nat×St×List (Int×Nat) // y.1≤4∧y.2.2.length=y.1∧(∀p∈y.2.2,p.2<4294967296)∧y.2.1.bits=s.bits∧j0E data s=s0L data y.1 y.2.2 y.2.1}) (fun y=> [(0,ptr a.st),(1,b0C data),(5,ptr b5),(8,ptr b8),(51,.int .i64 y.1.1)]) (fun y=>RSb W a s.bits y.1.2.1++ [pts b8 (.cells (hdL (hdP data y.1.2.2)).toArray 230 (0,0)),pts b5 (.cells ((Sha.sum data).map a0Q).toArray 44 (0,0)),R]) (fun y=>4-y.1.1) ⟨(0,s,[]),by omega,rfl,by simp,rfl,e0⟩ gSu gSp ?_;rintro⟨⟨i,u,ps⟩,hi,hpl,hpc,hub,he⟩ m0 hm0
 try simp only at hm0
 try dsimp only
 simp only at hi hpl hpc hub he;refine ns ?_;refine go 6 ?_;refine a0O rfl (fun hb52=> ?_) (fun hb52=> ?_)
 ·have hi4:i<4:=by have:=of_decide_eq_true hb52;omega
  have hbz:(bs data).size=256:=by rw[b0H,h256]
  have hpt:=Go.Sb.j1F h256 hi4;refine go 18 ?_;refine a0D (g1F Tst.o rfl rfl rfl (by omega)) ?_;refine go 4 ?_;rw[q2R (data:=data) (i:=i) (by omega) (by omega)];refine cg 2 (z0H (Go.Sb.part data i) (by omega)) ?_;refine go 3 ?_;refine a0O rfl (fun hb63=> ?_) (fun hb63=> ?_)
  ·have hnz:a0R (Go.Sb.part data i)=false:=by simpa using hb63
   have hL40:(hdL (hdP data ps)).length=40:=u0Q (j1W (by omega) hpc);refine fx (.r 0 7 (.soft 8 (.soft 11 (.soft 14 (.float 9 (.hard 7 (.soft 12 (.res (.hard 10 (.hard 13 (.soft 15 (.hard 16 .done)))))))))))) [stC a s.bits] ?_;refine go 10 ?_;refine t0F (e0:= [(72,_)]) rfl gSu (fun _ _ _=>rfl) Tsl.o Zr.o rfl rfl rfl (by simp[m0O,r0L,Value.cells]<;>rfl) rfl ?_;refine b0Y rfl (fun hok EE FF=> ?_);refine ns ?_;refine a0U rfl Hb.o rfl (l2H W a u (Go.Sb.part data i) s.bits (by omega) hub (by rw[he]at hnb;exact q2P hi4 hnz hnb)) gSp (fun x t ho=> ?_) (fun e t ho=>by refine pn ?_;exact kx ((by rw[he];exact q2O hi4 hnz ho)));refine ns ?_;refine go 1 ?_;refine fn (E:=EE) (F:=FF) (hok.put rfl) ?_;refine go 1 ?_;refine l0Y (fun b73=> ?_);dsimp only;refine b0Y rfl (fun hok EE FF=> ?_);refine ns ?_;refine cg 0 (s0V b73 1 (bs (Go.Sb.part data i)) (by rw[b0H,hpt];simp[maxLen])) ?_;refine go 1 ?_;refine fn (E:=EE) (F:=FF) (hok.put rfl) ?_;refine b0Y rfl (fun hok EE FF=> ?_);refine ns ?_;refine d0T Sz.o rfl rfl rfl (by rw[Nat.blt_eq];(try rw[List.length_set]);rw[hL40];omega) rfl ?_;refine go 1 ?_;refine fn (E:=EE) (F:=FF) hok ?_;refine go 1 ?_;refine b0Y rfl (fun hok EE FF=> ?_);refine ns ?_;refine d0T Sz.o rfl rfl rfl (by rw[Nat.blt_eq];(try rw[List.length_set]);rw[hL40];omega) rfl ?_;refine go 1 ?_;refine fn (E:=EE) (F:=FF) hok ?_;refine go 1 ?_
   first|rw[c2L hpl hi4 (by omega) (by omega)]|rw[List.set_comm _ _ (by omega),c2L hpl hi4 (by omega) (by omega)]
   refine go 5 ?_;exact rd idh (⟨(i+1,t,ps++ [(x,g0G (Go.Sb.part data i))]),hi4,by simp[hpl],by intro p hp;rcases List.mem_append.1 hp with hp|hp;(· exact hpc p hp);(· rw[List.mem_singleton.1 hp];exact y0L _),(by have:=s0X (Go.Sb.part data i) u;rw[ho]at this;exact this.trans hub),he.trans (v2N hi4 hnz ho)⟩)
  ·have hnz:a0R (Go.Sb.part data i)=true:=by simpa using hb63
   have hps:hdP data ps=hdP data (ps++ [(0,0)]):=by unfold hdP;rw[l2I (by omega)]
   rw[hps];refine go 6 ?_;exact rd idh (⟨(i+1,u,ps++ [(0,0)]),hi4,by simp[hpl],by intro p hp;rcases List.mem_append.1 hp with hp|hp;(· exact hpc p hp);(· rw[List.mem_singleton.1 hp];decide),hub,he.trans (l2J hi4 hnz)⟩)
 ·obtain rfl:i=4:=by have:=of_decide_eq_false hb52;omega
  have hln:=j1W (data:=data) (by omega) hpc;have hsz:(hdL (hdP data ps)).toArray.size=40:=by rw[List.size_toArray,u0Q hln]
  rw[q2Q hpl]at he;refine go 3 ?_;refine mx (.r 0 5 (.hard 5 (.hard 6 (.soft 7 .done)))) [stC a s.bits,pts b8 (.cells (hdL (hdP data ps)).toArray 230 (0,0))] ?_;refine go 4 ?_;refine d0A rfl (a0K Ag.o rfl (by rw[hsz];omega) (a0I hsz)) ?_;refine cg 1 (v1Y (hdP data ps) hln) ?_;refine go 3 ?_;refine a0U rfl Hb.o rfl (l2H W a u (h0Z (hdP data ps)) s.bits (by rw[v2O hln];omega) hub (by rw[he]at hnb;exact c0I hnb)) gSp (fun x t ho=> ?_) (fun e t ho=>by refine pn ?_;exact kx ((by rw[he];exact a0F ho)));refine ns ?_;refine go 6 ?_;have htb:t.bits=s.bits:=by have:=s0X (h0Z (hdP data ps)) u;rw[ho]at this;exact this.trans hub
  rw[a0A ho]at he;have hlog:=w1J (show(f0F (key t.bits (Sha.sum data)) x t).1≠ .big by rw[he]at hnb;exact c0I hnb);rw[a0A (m:=fun s=>f0F (key s.bits (Sha.sum data)) x s) (show _=_ from z1M _ _ hlog),htb]at he;refine e0C gFd fun by_ gv gc o hg hok=> ?_;simp only[d0B,c0R,List.cons_append,List.nil_append];refine mx (.r 0 16 (.soft 17 (.hard 16 (.hard 18 .done)))) [stC a s.bits,pts a.heap (.cells #[ptr a.disk,ptr a.log,ptr a.gr,.map (some a.refs),.map (some by_),gv,.int .i64 t.keep] 92 (0,0)),pts b5 (.cells ((Sha.sum data).map a0Q).toArray 44 (0,0))] ?_;refine go 11 ?_;refine d0A rfl (a0K Ag.o rfl (by rw[hs2];omega) (a0I hs2)) ?_;refine cg 6 (t0Y (Sha.sum data) s.bits hD hbits) ?_;refine ce 3 (z1A a by_ o t.log t.depth t.index (c0O s.bits (Sha.sum data)) x hlog hok.2.2.2 (by rw[h0T,hD])) ?_;rintro e _;refine ns ?_;refine go 10 ?_;refine b0U (c0W (s:= {t with log:=bk t.depth t.log (.index (key s.bits (Sha.sum data)) (a0C (key s.bits (Sha.sum data)) t.index)),index:=b0O (key s.bits (Sha.sum data)) x t.index}) hg (by exact⟨hok.1,hok.2.1,hok.2.2.1,fun p hp=>by rcases w1K hp with h|h;(· rw[h];exact(by unfold key;rw[h0T,hD]));(· exact hok.2.2.2 p h)⟩) gSp) (n0M he idh rfl rfl gSp)
end
theorem r1A (W:World) (hW:i0L W) (a:Ad) (s:St) (data:B) (hl:data.length≤1000000) (hbits:s.bits≤256) (hnb:(j0E data s).1≠ .big):a0G prog 164 #[ptr a.st,b0C data] (RS W a s) (Ran fT (RS W a) a0H (j0E data s)):=by
 by_cases h:data.length≠256∨a0R data=true
 ·exact g2C W a s data hl h
 ·have h1:data.length=256:=Classical.byContradiction fun e=>h (.inl e);have h2:a0R data=false:=by cases e:a0R data with
   |false=>rfl
   |true=>exact(h (.inr e)).elim
  cases hm:a0C (key s.bits (Sha.sum data)) s.index with
  |some a0=>exact g2D W hW a s data h1 h2 hbits a0 hm hnb
  |none=>exact q2S W hW a s data h1 h2 hbits hm hnb
theorem o1T (at_:Int):PB (g0X at_):=fun s=>by unfold g0X;split<;>rfl
theorem c2M {α:Type} (o:Out α):PB (s0H o):=fun _=>rfl
theorem h1E {α:Type} (e:Int):PB (n0L e:M α):=fun _=>rfl
theorem i0F {α:Type} {p:Prop} [Decidable p] {m n:M α} (h:PB m) (h':PB n):PB (if p then m else n):=by split<;>assumption
theorem u0T {α:Type} {f:α→M Unit} (h: ∀x,PB (f x)): ∀l,PB (d0V f l)
 | []=>c0V _
 |x::l=>b0L (h x) fun _=>u0T h l
theorem d1C (a:Int):PB (e0U a):=b0L (o1T a) fun _=>c2M _
theorem j1X (k:Int):PB (k0S k):=fun s=>by
 unfold k0S;split
 ·rfl
 ·exact c1Z k _ s
theorem w1M (k:B):PB (h0O k):=s0W _ (fun s=> {s with index:=b0D k s.index}) fun _=>rfl
theorem q2T (k:Int):PB (t0K k):=i0F (c0V _) (j1X k)
theorem g2E (k:Int):PB (j0K k):=i0F (b0L (u0S k) fun _=>c0V _) (c0V _)
theorem d1D (k:Int):PB (g0O k):=i0F (c0V _) (b0L (d1C k) fun x=>b0L (u0S k) fun b=>i0F (b0L (u0T g2E _) fun _=>m1M (m:=fun s=>h0O (key s.bits x.sum)) fun _=>w1M _) (c0V _))
theorem r1B (x:Hd): ∀n,PB (g0A x n)
 |0=>c0V _
 |n+1=>by
  unfold g0A;exact b0L (i0F (b0L (o1T _) fun _=>i0F (h1E _) (c0V _)) (c0V _)) fun _=>b0L (r1B x n) fun _=>c0V _
theorem c2N (a:Int):PB (l0D a):=i0F (c0V _) (b0L (d1C a) fun x=>r1B x 4)
theorem v2P (a:Int):PB (r0X a):=i0F (c0V _) (b0L (d1C a) fun x=>c0V _)
theorem o1U (data:B):PB (j0E data):=by
 unfold j0E;refine i0F (h1E _) (i0F (c0V _) fun s=> ?_);show(match a0C (key s.bits (Sha.sum data)) s.index with
  |some a=>a0B (l0D a) (fun was=>if was≠data then n0L 9 else a0B (k0S a) fun _=>ret a) s
  |none=>a0B (n0I data 4) (fun ps:List (Int×Nat)=>a0B (e0S (h0Z {at_:=ps.map Prod.fst,sums:=ps.map Prod.snd,sum:=Sha.sum data})) fun a=>a0B (fun s=>f0F (key s.bits (Sha.sum data)) a s) fun _=>ret a) s).2.bits=s.bits
 split
 ·exact b0L (c2N _) (fun _=>i0F (h1E _) (b0L (j1X _) fun _=>c0V _)) s
 ·exact b0L (j1V data 4) (fun r=>b0L (s0X _) fun a=>b0L (m1M (m:=fun s=>f0F (key s.bits (Sha.sum data)) a) fun _=>i1A _ _) fun _=>c0V _) s
theorem u0U (a:Int) (l:Nat):PB (Go.Sb.load a l):=i0F (c0V _) (b0L (o1T a) fun _=>c2M _)
theorem j1Y (a:Int) (l:Nat):PB (h0E a l):=i0F (c0V _) (i0F (q2T a) (j1X a))
theorem y0P: ∀l a,PB (g0P l a)
 |0,a=>d1D a
 |l+1,a=>by
  unfold g0P;exact i0F (c0V _) (b0L (u0U a l) fun n=>b0L (u0S a) fun b=>i0F (u0T (y0P l) _) (c0V _))
theorem j1Z (l:Nat): ∀k,PB (h0F l k)
 | []=>c0V _
 |k::r=>by
  unfold h0F;refine b0L ?_ fun s=>b0L (j1Z l r) fun _=>c0V _;cases l with
  |zero=>exact v2P k
  |succ n=>exact b0L (u0U k n) fun _=>c0V _
theorem o1V: ∀l root at_ to_,PB (i0W l root at_ to_)
 |0,root,at_,to_=>by
  unfold i0W;exact b0L (u0U _ _) fun n=>b0L (u0T (fun k=>j1Y k 0) _) fun _=>b0L (y0P _ _) fun _=>b0L (b0L (d1D _) fun _=>c0V _) fun r=>i0F (c0V _) (b0L (j1Z _ _) fun _=>s0X _)
 |l+1,root,at_,to_=>by
  unfold i0W;exact b0L (u0U _ _) fun n=>b0L (u0T (fun k=>j1Y k (l+1)) _) fun _=>b0L (y0P _ _) fun _=>b0L (o1V l _ _ _) fun r=>i0F (c0V _) (b0L (j1Z _ _) fun _=>s0X _)
theorem o1W: ∀l root at_,PB (l0E l root at_)
 |0,root,at_=>by unfold l0E;exact b0L (u0U _ _) fun _=>c0V _
 |l+1,root,at_=>by unfold l0E;exact b0L (u0U _ _) fun _=>o1W l _ _
theorem o1X (root:Int) (at_:Nat) (to_:Int):PB (m0G root at_ to_):=b0L (o1W _ _ _) fun x=>i0F (b0L (d1D _) fun _=>c0V _) (o1V _ _ _ _)
theorem f1O {l:Nat} {b:B} {x:Nd} (h:g0C l b= .ok x):o0T x:=by
 unfold g0C at h;cases ho:i0A b with
 |err e=>rw[ho]at h;cases h
 |big=>rw[ho]at h;cases h
 |ok t=>
  rw[ho]at h;simp only at h;have ht:t=b.take 60∧b.length=64:=by
   unfold i0A at ho;split at ho
   ·cases ho
   ·split at ho
    ·cases ho
    ·split at ho
     ·cases ho
     ·split at ho
      ·cases ho
      ·rename_i h4;cases ho;exact⟨rfl,by omega⟩
  split at h
  ·cases h
  ·split at h
   ·cases h
   ·split at h
    ·cases h
    ·cases h
     exact⟨by simp[l0I],by simp;rw[ht.1];simp;omega⟩
theorem h0Q {at_:Int} {l:Nat} {s t:St} {x:Nd} (h:Go.Sb.load at_ l s=(.ok x,t)):t=s∧o0T x:=by
 unfold Go.Sb.load at h;split at h
 ·cases h;exact⟨rfl,⟨rfl,by simp[a0L]⟩⟩
 ·cases hg:g0X at_ s with
  |mk o u=>
   cases o with
   |ok b=>
    rw[a0A hg]at h;unfold s0H at h;simp only[Prod.mk.injEq]at h;exact⟨h.2.symm.trans (x0M hg).1,f1O h.1⟩
   |err e=>rw[a0F hg]at h;cases h
   |big=>unfold a0B at h;rw[hg]at h;cases h
theorem q0F {l:Int} {x:Nd} (h:o0T x):(ndL l x).length=41:=by unfold ndL;simp[h.n,h.sum]
theorem h1F (l:Int) (x:Nd): ∀v∈(ndL l x).toArray.toList,v.oneCell'=true:=by
 intro v hv;simp only[ndL,List.mem_append,List.mem_map,List.mem_singleton]at hv;rcases hv with rfl| ⟨_,_,rfl⟩| ⟨_,_,rfl⟩<;>rfl
theorem v2Q:o0T {kids:=e0L,sum:=a0L 32} :=⟨rfl,by simp[a0L]⟩
set_option maxRecDepth 4000 in
theorem p0F (W:World) (a:Ad) (s:St) (at_:Int) (l:Nat):a0G prog 108 #[ptr a.maps,.int .i64 at_,.int .i64 l] (RS W a s) (Ran fT (RS W a) (ndV l) (Go.Sb.load at_ l s)):=by
 by_cases h0:at_=0
 ·subst h0;rw[show Go.Sb.load 0 l s=(.ok {kids:=e0L,sum:=a0L 32},s) by unfold Go.Sb.load;rw[if_pos rfl];rfl];have hsz:(ndL l {kids:=e0L,sum:=a0L 32}).toArray.size=41:=by rw[List.size_toArray,q0F v2Q]
  refine en func108 ntmps108 fun R w0=> ?_;refine go 2 ?_;refine al fun b6=> ?_;refine go 13 ?_;refine a0D (s0P (cs:=ndL l {kids:=e0L,sum:=a0L 32}) Pl.o rfl ((w1L (i:=0) (off:=0) (size:=1) (vs:= [a0H l]) rfl rfl (by exact Nat.le_add_left 1 40)).trans (by rfl))) ?_;refine a0M Sz.o rfl rfl hsz (h1F _ _) (by rw[hsz];exact Nat.le_refl 41) (a0N (by rw[hsz];rfl)) ?_;refine go 2 ?_;exact k0A rfl idh (RV.agg Ag.o rfl (by rw[hsz];omega) (a0I hsz) RV.nil) rfl gSp
 ·have e0:Go.Sb.load at_ l s=a0B (g0X at_) (fun b=>s0H (g0C l b)) s:=by unfold Go.Sb.load;rw[if_neg h0]
  refine en func108 ntmps108 fun R w0=> ?_;refine n0N (p:=l0N s.d) gFd fun hdk=> ?_;refine go 2 ?_;refine al fun b6=> ?_;refine go 9 ?_;refine b0S rfl (by simpa using h0) ?_;refine go 9 ?_;refine a0U rfl Hb.o rfl (f1E W a s at_) gSp (fun b t ho=> ?_) (fun e t ho=>by refine pn ?_;exact kx ((by rw[e0];exact a0F ho)));refine ns ?_;obtain⟨rfl,hrd⟩:=x0M ho;have hbl:=q1V hdk hrd;have ho1:=ho;refine go 1 ?_;refine a0U rfl Hb.o rfl (w1C l b (by omega)) gSp (fun x u ho=> ?_) (fun e t ho=>by refine pn ?_;exact kx ((by rw[e0,a0A ho1];unfold s0H;rw[show g0C l b= .err e from congrArg Prod.fst ho])));refine ns ?_;have hx:g0C l b= .ok x:=congrArg Prod.fst ho;have hln:=f1O hx;have hsz:(ndL l x).toArray.size=41:=by rw[List.size_toArray,q0F hln]
  have hr:Go.Sb.load at_ l t=(.ok x,t):=by rw[e0,a0A ho1];unfold s0H;rw[hx]
  refine a0M Sz.o rfl rfl hsz (h1F _ _) (by rw[hsz];exact Nat.le_refl 41) (a0N (by rw[hsz];rfl)) ?_;refine go 2 ?_;exact k0A hr idh (RV.agg Ag.o rfl (by rw[hsz];omega) (a0I hsz) RV.nil) rfl gSp
theorem m1N (W:World) (a:Ad) (s:St) (at_:Int) (l:Nat) (hnb:(h0E at_ l s).1≠ .big):a0G prog 183 #[ptr a.maps,.int .i64 at_,.int .i64 l] (RS W a s) (Ran fT (RS W a) i0S (h0E at_ l s)):=by
 by_cases h0:at_=0
 ·rw[show h0E at_ l s=(.ok (),s) by unfold h0E;rw[if_pos h0];rfl];refine en func183 ntmps183 fun R w0=> ?_;refine go 8 ?_;refine d0P rfl (by simpa using h0) ?_;refine go 1 ?_;exact fR rfl
 ·by_cases hl:l=0
  ·subst hl;have hr:h0E at_ 0 s=t0K at_ s:=by unfold h0E;rw[if_neg h0,if_pos rfl]
   rw[hr]at hnb ⊢;refine en func183 ntmps183 fun R w0=> ?_;refine go 8 ?_;refine b0S rfl (by simpa using h0) ?_;refine go 14 ?_;refine a0U rfl Hb.o rfl (f2Z W a s at_ hnb) gSp (fun u t ho=> ?_) (fun e t ho=>by refine pn ?_;exact kx (ho));refine ns ?_;refine go 1 ?_;exact fR ho
  ·have hr:h0E at_ l s=k0S at_ s:=by unfold h0E;rw[if_neg h0,if_neg hl]
   rw[hr]at hnb ⊢;refine en func183 ntmps183 fun R w0=> ?_;refine go 8 ?_;refine b0S rfl (by simpa using h0) ?_;refine go 7 ?_;refine b0S rfl (by simpa using hl) ?_;refine go 6 ?_;refine a0U rfl Hb.o rfl (c1S W a s at_ hnb) gSp (fun u t ho=> ?_) (fun e t ho=>by refine pn ?_;exact kx (ho));refine ns ?_;refine go 1 ?_;exact fR ho
end Go.Proofs.Q

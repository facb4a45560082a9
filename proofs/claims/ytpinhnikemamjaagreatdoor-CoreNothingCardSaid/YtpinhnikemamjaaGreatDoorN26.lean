/- Part of the proof; no statement of its own. -/
import Derived.Test.YtpinhnikemamjaaGreatDoorN18
import Derived.Test.YtpinhnikemamjaaGreatDoorN23
import Derived.Test.YtpinhnikemamjaaGreatDoorN24
import Derived.Test.YtpinhnikemamjaaGreatDoorN25
import Derived.Test.YtpinhnikemamjaaGreatDoorN10
set_option linter.all false
set_option maxRecDepth 4000
set_option maxHeartbeats 4000000
attribute [local irreducible] Go.Sl.a0O Go.Sl.OW Go.Sl.CW Go.Sl.OS Go.Sl.OM Go.Sl.OMf Go.Sl.KM
namespace Go.Proofs.Q
open Go.Sl Go.Sb Tryz
theorem p1R (W:World) (hW:h0W W) (a:Ad) (s:St) (data:B) (hl:data.length≤1000000) (hbits:s.bits≤256) (hnb:(i0Q data s).1≠ .big):a0F prog 164 #[ptr a.st,b0B data] (RS W a s) (Ran fT (RS W a) a0J (i0Q data s)):=by
 by_cases h:data.length≠256∨a0R data=true
 ·exact e2D W a s data hl h
 ·have h1:data.length=256:=Classical.byContradiction fun e=>h (.inl e);have h2:a0R data=false:=by cases e:a0R data with
   |false=>rfl
   |true=>exact(h (.inr e)).elim
  cases hm:a0E (key s.bits (Sha.sum data)) s.index with
  |some a0=>exact e2E W hW a s data h1 h2 hbits a0 hm hnb
  |none=>exact o2O W hW a s data h1 h2 hbits hm hnb
theorem n1H (at_:Int):PB (h0P at_):=fun s=>by unfold h0P;split<;>rfl
theorem a2M {α:Type} (o:Out α):PB (t0P o):=fun _=>rfl
theorem f1X {α:Type} (e:Int):PB (n0Q e:M α):=fun _=>rfl
theorem l0D {α:Type} {p:Prop} [Decidable p] {m n:M α} (h:PB m) (h':PB n):PB (if p then m else n):=by split<;>assumption
theorem a1A {α:Type} {f:α→M Unit} (h: ∀x,PB (f x)): ∀l,PB (i0D f l)
 | []=>d0C _
 |x::l=>b0P (h x) fun _=>a1A h l
theorem i1P (a:Int):PB (g0W a):=b0P (n1H a) fun _=>a2M _
theorem i1Q (k:Int):PB (k0E k):=fun s=>by
 unfold k0E;split
 ·rfl
 ·exact b1Y k _ s
theorem u1T (k:B):PB (g0Z k):=s0J _ (fun s=> {s with index:=b0C k s.index}) fun _=>rfl
theorem o2P (k:Int):PB (s0V k):=l0D (d0C _) (i1Q k)
theorem e2F (k:Int):PB (j0A k):=l0D (b0P (t0W k) fun _=>d0C _) (d0C _)
theorem c1B (k:Int):PB (g0D k):=l0D (d0C _) (b0P (i1P k) fun x=>b0P (t0W k) fun b=>l0D (b0P (a1A e2F _) fun _=>l1E (m:=fun s=>g0Z (key s.bits x.sum)) fun _=>u1T _) (d0C _))
theorem p1S (x:Hd): ∀n,PB (f0N x n)
 |0=>d0C _
 |n+1=>by
  unfold f0N;exact b0P (l0D (b0P (n1H _) fun _=>l0D (f1X _) (d0C _)) (d0C _)) fun _=>b0P (p1S x n) fun _=>d0C _
theorem a2N (a:Int):PB (k0R a):=l0D (d0C _) (b0P (i1P a) fun x=>p1S x 4)
theorem t2R (a:Int):PB (r0J a):=l0D (d0C _) (b0P (i1P a) fun x=>d0C _)
theorem n1I (data:B):PB (i0Q data):=by
 unfold i0Q;refine l0D (f1X _) (l0D (d0C _) fun s=> ?_);show(match a0E (key s.bits (Sha.sum data)) s.index with
  |some a=>a0B (k0R a) (fun was=>if was≠data then n0Q 9 else a0B (k0E a) fun _=>ret a) s
  |none=>a0B (m0X data 4) (fun ps:List (Int×Nat)=>a0B (e0M (h0F {at_:=ps.map Prod.fst,sums:=ps.map Prod.snd,sum:=Sha.sum data})) fun a=>a0B (fun s=>e0X (key s.bits (Sha.sum data)) a s) fun _=>ret a) s).2.bits=s.bits
 split
 ·exact b0P (a2N _) (fun _=>l0D (f1X _) (b0P (i1Q _) fun _=>d0C _)) s
 ·exact b0P (i1N data 4) (fun r=>b0P (s0K _) fun a=>b0P (l1E (m:=fun s=>e0X (key s.bits (Sha.sum data)) a) fun _=>g1T _ _) fun _=>d0C _) s
theorem w0S (a:Int) (l:Nat):PB (Go.Sb.load a l):=l0D (d0C _) (b0P (n1H a) fun _=>a2M _)
theorem i1R (a:Int) (l:Nat):PB (g0N a l):=l0D (d0C _) (l0D (o2P a) (i1Q a))
theorem x0W: ∀l a,PB (g0E l a)
 |0,a=>c1B a
 |l+1,a=>by
  unfold g0E;exact l0D (d0C _) (b0P (w0S a l) fun n=>b0P (t0W a) fun b=>l0D (a1A (x0W l) _) (d0C _))
theorem i1S (l:Nat): ∀k,PB (g0O l k)
 | []=>d0C _
 |k::r=>by
  unfold g0O;refine b0P ?_ fun s=>b0P (i1S l r) fun _=>d0C _;cases l with
  |zero=>exact t2R k
  |succ n=>exact b0P (w0S k n) fun _=>d0C _
theorem n1J: ∀l root at_ to_,PB (i0F l root at_ to_)
 |0,root,at_,to_=>by
  unfold i0F;exact b0P (w0S _ _) fun n=>b0P (a1A (fun k=>i1R k 0) _) fun _=>b0P (x0W _ _) fun _=>b0P (b0P (c1B _) fun _=>d0C _) fun r=>l0D (d0C _) (b0P (i1S _ _) fun _=>s0K _)
 |l+1,root,at_,to_=>by
  unfold i0F;exact b0P (w0S _ _) fun n=>b0P (a1A (fun k=>i1R k (l+1)) _) fun _=>b0P (x0W _ _) fun _=>b0P (n1J l _ _ _) fun r=>l0D (d0C _) (b0P (i1S _ _) fun _=>s0K _)
theorem n1K: ∀l root at_,PB (k0S l root at_)
 |0,root,at_=>by unfold k0S;exact b0P (w0S _ _) fun _=>d0C _
 |l+1,root,at_=>by unfold k0S;exact b0P (w0S _ _) fun _=>n1K l _ _
theorem n1L (root:Int) (at_:Nat) (to_:Int):PB (l0P root at_ to_):=b0P (n1K _ _ _) fun x=>l0D (b0P (c1B _) fun _=>d0C _) (n1J _ _ _ _)
theorem e1K {l:Nat} {b:B} {x:Nd} (h:f0Q l b= .ok x):o0C x:=by
 unfold f0Q at h;cases ho:h0G b with
 |err e=>rw[ho]at h;cases h
 |big=>rw[ho]at h;cases h
 |ok t=>
  rw[ho]at h;simp only at h;have ht:t=b.take 60∧b.length=64:=by
   unfold h0G at ho;split at ho
   ·cases ho
   ·split at ho
    ·cases ho
    ·split at ho
     ·cases ho
     ·split at ho
      ·cases ho
      ·rename_i h4;cases ho;exact⟨rfl,by omega⟩
  split at h
  ·cases h
  ·split at h
   ·cases h
   ·split at h
    ·cases h
    ·cases h
     exact⟨by simp[k0V],by simp;rw[ht.1];simp;omega⟩
theorem h0U {at_:Int} {l:Nat} {s t:St} {x:Nd} (h:Go.Sb.load at_ l s=(.ok x,t)):t=s∧o0C x:=by
 unfold Go.Sb.load at h;split at h
 ·cases h;exact⟨rfl,⟨rfl,by simp[a0K]⟩⟩
 ·cases hg:h0P at_ s with
  |mk o u=>
   cases o with
   |ok b=>
    rw[a0A hg]at h;unfold t0P at h;simp only[Prod.mk.injEq]at h;exact⟨h.2.symm.trans (w0Q hg).1,e1K h.1⟩
   |err e=>rw[a0I hg]at h;cases h
   |big=>unfold a0B at h;rw[hg]at h;cases h
theorem p0R {l:Int} {x:Nd} (h:o0C x):(ndL l x).length=41:=by unfold ndL;simp[h.n,h.sum]
theorem f1Y (l:Int) (x:Nd): ∀v∈(ndL l x).toArray.toList,v.oneCell'=true:=by
 intro v hv;simp only[ndL,List.mem_append,List.mem_map,List.mem_singleton]at hv;rcases hv with rfl| ⟨_,_,rfl⟩| ⟨_,_,rfl⟩<;>rfl
theorem t2S:o0C {kids:=e0F,sum:=a0K 32} :=⟨rfl,by simp[a0K]⟩
set_option maxRecDepth 4000 in
theorem q0N (W:World) (a:Ad) (s:St) (at_:Int) (l:Nat):a0F prog 108 #[ptr a.maps,.int .i64 at_,.int .i64 l] (RS W a s) (Ran fT (RS W a) (ndV l) (Go.Sb.load at_ l s)):=by
 by_cases h0:at_=0
 ·subst h0;rw[show Go.Sb.load 0 l s=(.ok {kids:=e0F,sum:=a0K 32},s) by unfold Go.Sb.load;rw[if_pos rfl];rfl];have hsz:(ndL l {kids:=e0F,sum:=a0K 32}).toArray.size=41:=by rw[List.size_toArray,p0R t2S]
  refine en func108 ntmps108 fun R w0=> ?_;refine go 2 ?_;refine al fun b6=> ?_;refine go 13 ?_;refine a0D (s0B (cs:=ndL l {kids:=e0F,sum:=a0K 32}) Pl.o rfl ((u1S (i:=0) (off:=0) (size:=1) (vs:= [a0J l]) rfl rfl (by exact Nat.le_add_left 1 40)).trans (by rfl))) ?_;refine a0M Sz.o rfl rfl hsz (f1Y _ _) (by rw[hsz];exact Nat.le_refl 41) (a0N (by rw[hsz];rfl)) ?_;refine go 2 ?_;exact j0R rfl idh (RV.agg Ag.o rfl (by rw[hsz];omega) (a0G hsz) RV.nil) rfl gSp
 ·have e0:Go.Sb.load at_ l s=a0B (h0P at_) (fun b=>t0P (f0Q l b)) s:=by unfold Go.Sb.load;rw[if_neg h0]
  refine en func108 ntmps108 fun R w0=> ?_;refine o0E (p:=l0R s.d) gFd fun hdk=> ?_;refine go 2 ?_;refine al fun b6=> ?_;refine go 9 ?_;refine b0R rfl (by simpa using h0) ?_;refine go 9 ?_;refine a0X rfl Hb.o rfl (e1B W a s at_) gSp (fun b t ho=> ?_) (fun e t ho=>by refine pn ?_;exact kx ((by rw[e0];exact a0I ho)));refine ns ?_;obtain⟨rfl,hrd⟩:=w0Q ho;have hbl:=p1M hdk hrd;have ho1:=ho;refine go 1 ?_;refine a0X rfl Hb.o rfl (u1I l b (by omega)) gSp (fun x u ho=> ?_) (fun e t ho=>by refine pn ?_;exact kx ((by rw[e0,a0A ho1];unfold t0P;rw[show f0Q l b= .err e from congrArg Prod.fst ho])));refine ns ?_;have hx:f0Q l b= .ok x:=congrArg Prod.fst ho;have hln:=e1K hx;have hsz:(ndL l x).toArray.size=41:=by rw[List.size_toArray,p0R hln]
  have hr:Go.Sb.load at_ l t=(.ok x,t):=by rw[e0,a0A ho1];unfold t0P;rw[hx]
  refine a0M Sz.o rfl rfl hsz (f1Y _ _) (by rw[hsz];exact Nat.le_refl 41) (a0N (by rw[hsz];rfl)) ?_;refine go 2 ?_;exact j0R hr idh (RV.agg Ag.o rfl (by rw[hsz];omega) (a0G hsz) RV.nil) rfl gSp
theorem l1F (W:World) (a:Ad) (s:St) (at_:Int) (l:Nat) (hnb:(g0N at_ l s).1≠ .big):a0F prog 183 #[ptr a.maps,.int .i64 at_,.int .i64 l] (RS W a s) (Ran fT (RS W a) k0I (g0N at_ l s)):=by
 by_cases h0:at_=0
 ·rw[show g0N at_ l s=(.ok (),s) by unfold g0N;rw[if_pos h0];rfl];refine en func183 ntmps183 fun R w0=> ?_;refine go 8 ?_;refine d0R rfl (by simpa using h0) ?_;refine go 1 ?_;exact fR rfl
 ·by_cases hl:l=0
  ·subst hl;have hr:g0N at_ 0 s=s0V at_ s:=by unfold g0N;rw[if_neg h0,if_pos rfl]
   rw[hr]at hnb ⊢;refine en func183 ntmps183 fun R w0=> ?_;refine go 8 ?_;refine b0R rfl (by simpa using h0) ?_;refine go 14 ?_;refine a0X rfl Hb.o rfl (e2A W a s at_ hnb) gSp (fun u t ho=> ?_) (fun e t ho=>by refine pn ?_;exact kx (ho));refine ns ?_;refine go 1 ?_;exact fR ho
  ·have hr:g0N at_ l s=k0E at_ s:=by unfold g0N;rw[if_neg h0,if_neg hl]
   rw[hr]at hnb ⊢;refine en func183 ntmps183 fun R w0=> ?_;refine go 8 ?_;refine b0R rfl (by simpa using h0) ?_;refine go 7 ?_;refine b0R rfl (by simpa using hl) ?_;refine go 6 ?_;refine a0X rfl Hb.o rfl (b1R W a s at_ hnb) gSp (fun u t ho=> ?_) (fun e t ho=>by refine pn ?_;exact kx (ho));refine ns ?_;refine go 1 ?_;exact fR ho
section
section
variable {α:Type} {f:α→M Unit} {x:α} {l:List α} {s t:St} {e:Int}
theorem a2O (h:f x s=(.ok (),t)):i0D f (x::l) s=i0D f l t:=by
 show a0B (f x) (fun _=>i0D f l) s=_;rw[a0A h]
theorem u1U (h:f x s=(.err e,t)):i0D f (x::l) s=(.err e,t):=by unfold i0D;rw[a0I h]
theorem u1V (h:(i0D f (x::l) s).1≠ .big):(f x s).1≠ .big:=by unfold i0D at h;exact c0I h
end
abbrev i1T (W:World) (a:Ad) (l:Nat):Prop:= ∀(s:St) (at_:Int),s.bits≤256→(g0E l at_ s).1≠ .big→a0F prog 207 #[ptr a.maps,.int .i64 at_,.int .i64 l] (RS W a s) (Ran fT (RS W a) k0I (g0E l at_ s))
abbrev i1U (W:World) (a:Ad) (l:Nat):Prop:= ∀(s:St) (at_:Int),s.bits≤256→(g0E (l+1) at_ s).1≠ .big→a0F prog 170 #[ptr a.maps,.int .i64 at_,.int .i64 l] (RS W a s) (Ran fT (RS W a) k0I (g0E (l+1) at_ s))
theorem e2G (W:World) (a:Ad):i1T W a 0:=by
 intro s at_ hbits hnb;have hr:g0E 0 at_ s=g0D at_ s:=rfl;rw[hr]at hnb ⊢;refine en func207 ntmps207 fun R w0=> ?_;refine go 15 ?_;refine a0X rfl Hb.o rfl (b1Z W a s at_ hbits hnb) gSp (fun u t ho=> ?_) (fun e t ho=>by refine pn ?_;exact kx (ho));refine ns ?_;refine go 2 ?_;exact rR idh ho
theorem e2H (W:World) (a:Ad) (l:Nat) (hl:l<100) (hd:i1U W a l):i1T W a (l+1):=by
 intro s at_ hbits hnb;refine en func207 ntmps207 fun R w0=> ?_;refine go 15 ?_;rw[show((l+1:Nat):Int)-1=(l:Int) by omega];refine a0X rfl Hb.o rfl (hd s at_ hbits hnb) gSp (fun u t ho=> ?_) (fun e t ho=>by refine pn ?_;exact kx (ho));refine ns ?_;refine go 1 ?_;exact fR ho
set_option maxRecDepth 4000 in
theorem l1G (W:World) (a:Ad) (l:Nat) (hd:i1T W a l):i1U W a l:=by
 intro s at_ hbits hnb;by_cases h0:at_=0
 ·subst h0;rw[show g0E (l+1) 0 s=(.ok (),s) by unfold g0E;rw[if_pos rfl];rfl];refine en func170 ntmps170 fun R w0=> ?_;refine go 8 ?_;exact rR idh rfl
 ·have e0:g0E (l+1) at_ s=a0B (Go.Sb.load at_ l) (fun n=>a0B (e0B at_) fun b=>if b then i0D (g0E l) n.kids else ret ()) s:=by
   conv=>lhs;unfold g0E
   rw[if_neg h0]
  refine en func170 ntmps170 fun R w0=> ?_;refine go 7 ?_;refine b0R rfl (by simpa using h0) ?_;refine go 7 ?_;refine a0X rfl Hb.o rfl (q0N W a s at_ l) gSp (fun x t ho=> ?_) (fun e t ho=>by refine pn ?_;exact kx ((by rw[e0];exact a0I ho)));refine ns ?_;obtain⟨hts,hln⟩:=h0U ho;rw[hts]at ho ⊢;rw[a0A ho]at e0;have hsz:(ndL l x).toArray.size=41:=by rw[List.size_toArray,p0R hln]
  have c1:(x.kids.map a0J).length=8:=by simp[hln.n]
  have hnb1:(e0B at_ s).1≠ .big:=by rw[e0]at hnb;exact c0I hnb
  refine al fun b6=> ?_;refine a0M Sz.o rfl rfl hsz (f1Y _ _) (by rw[hsz];exact Nat.le_refl 41) (a0N (by rw[hsz];rfl)) ?_;refine go 10 ?_;refine a0X rfl Hb.o rfl (b1T W a s at_ hnb1) gSp (fun b t ho=> ?_) (fun e t ho=>by refine pn ?_;exact kx ((by rw[e0];exact a0I ho)));refine ns ?_;have ho20:=ho;rw[a0A ho20]at e0;refine go 3 ?_;refine a0P rfl (fun hb21=> ?_) (fun hb21=> ?_)
  ·have hbf:b=false:=by simpa using hb21
   exact rR idh (by rw[e0,hbf];rfl)
  ·have hbt:b=true:=by simpa using hb21
   have he0:g0E (l+1) at_ s=i0D (g0E l) (x.kids.drop 0) t:=by rw[e0,hbt];rfl
   refine go 5 ?_;refine a0D (a0L Ag.o rfl (by show 0+1+8≤(ndL l x).toArray.size;rw[hsz];omega) (d0X (a:= [a0J l]) rfl c1)) ?_;refine go 4 ?_;refine a0V (X:= {y:Nat×St // y.1≤8∧y.2.bits=s.bits∧g0E (l+1) at_ s=i0D (g0E l) (x.kids.drop y.1) y.2}) (fun y=> [(0,ptr a.maps),(2,.int .i64 l),(23,.agg (x.kids.map a0J).toArray),(24,.int .i64 y.1.1)]) (fun y=>RS W a y.1.2++ [R]) (fun y=>8-y.1.1) ⟨(0,t),by omega,by have:=t0W at_ s;rw[ho20]at this;exact this,he0⟩ gSu gSp ?_;rintro⟨⟨i,u⟩,hi,hub,he⟩ m0 hm0
   try simp only at hm0
   try dsimp only
   simp only at hi hub he;refine ns ?_;refine go 6 ?_;refine a0P rfl (fun hb25=> ?_) (fun hb25=> ?_)
   ·have hi8:i<8:=by have:=of_decide_eq_true hb25;omega
    have hil:i<x.kids.length:=by rw[hln.n];exact hi8
    rw[List.drop_eq_getElem_cons hil]at he;refine go 6 ?_;refine a0D (p0V Tar.o Sc.o rfl rfl (by omega) (j0I a0J x.kids i _ hil (by omega))) ?_;refine go 7 ?_;refine a0X rfl Hb.o rfl (hd u x.kids[i] (by omega) (by rw[he]at hnb;exact u1V hnb)) gSp (fun b' t' ho=> ?_) (fun e t ho=>by refine pn ?_;exact kx ((by rw[he];exact u1U ho)));refine ns ?_;refine go 6 ?_;exact rd idh (⟨(i+1,t'),hi8,(by have:=x0W l x.kids[i] u;rw[ho]at this;exact this.trans hub),he.trans (a2O ho)⟩)
   ·obtain rfl:i=8:=by have:=of_decide_eq_false hb25;omega
    rw[List.drop_eq_nil_of_le (by rw[hln.n];exact Nat.le_refl _)]at he;refine go 1 ?_;exact fR he
theorem e1L (W:World) (a:Ad): ∀l,l<100→i1U W a l
 |0,_=>l1G W a 0 (e2G W a)
 |l+1,h=>l1G W a (l+1) (e2H W a l (by omega) (e1L W a l (by omega)))
end
section
theorem a2P {l:Int} {x:Nd} (h:o0C x):(ndL l x).toArray.extract 9 (9+32)=(x.sum.map a0Q).toArray:=by
 rw[show ndL l x=([a0J l]++x.kids.map a0J)++(x.sum.map a0Q++ []) by simp[ndL]];exact d0X (by rw[List.length_append,List.length_map,h.n];rfl) (by rw[List.length_map,h.sum])
theorem u1W {at_:Int} {s t:St} {v:B} (h:r0J at_ s=(.ok v,t)):t=s∧v.length=32:=by
 unfold r0J at h;split at h
 ·cases h;exact⟨rfl,by simp[a0K]⟩
 ·cases hg:g0W at_ s with
  |mk o u=>
   cases o with
   |ok x=>rw[a0A hg]at h;cases h;exact⟨(q0M hg).1,(q0M hg).2.sum⟩
   |err e=>rw[a0I hg]at h;cases h
   |big=>unfold a0B at h;rw[hg]at h;cases h
def c1C (l:Nat) (k:Int):M B:=match l with|0=>r0J k|n+1=>a0B (Go.Sb.load k n) fun x=>ret x.sum
theorem p1T {l:Nat} {k:Int} {s t:St} {v:B} (h:c1C l k s=(.ok v,t)):t=s∧v.length=32:=by
 unfold c1C at h;cases l with
 |zero=>exact u1W h
 |succ n=>
  simp only at h;cases hg:Go.Sb.load k n s with
  |mk o u=>
   cases o with
   |ok x=>rw[a0A hg]at h;cases h;exact⟨(h0U hg).1,(h0U hg).2.sum⟩
   |err e=>rw[a0I hg]at h;cases h
   |big=>unfold a0B at h;rw[hg]at h;cases h
theorem c1D (l:Nat) (k:Int) (r:List Int):g0O l (k::r)=a0B (c1C l k) fun s=>a0B (g0O l r) fun r=>ret (s::r):=rfl
def c1E (l:Nat) (r:List Int) (acc:List B) (s:St):Out (List B)×St:=a0B (g0O l r) (fun r=>ret (acc++r)) s
section
variable {l:Nat} {k:Int} {r:List Int} {acc:List B} {s t:St} {v:B} {e:Int}
theorem a2Q (h:c1C l k s=(.ok v,t)):c1E l (k::r) acc s=c1E l r (acc++ [v]) t:=by
 unfold c1E;rw[c1D];unfold a0B;rw[h];simp only;cases g0O l r t with
 |mk o u=>cases o<;>simp[ret]
theorem u1X (h:c1C l k s=(.err e,t)):c1E l (k::r) acc s=(.err e,t):=by
 unfold c1E;rw[c1D];unfold a0B;rw[h]
end
def t0X (acc:List B):List B:=acc++List.replicate (8-acc.length) (a0K 32)
theorem i1V {acc:List B} (h:acc.length≤8):(t0X acc).length=8:=by unfold t0X;simp;omega
theorem n1M {acc:List B} (h: ∀x∈acc,x.length=32): ∀x∈t0X acc,x.length=32:=by
 intro x hx;unfold t0X at hx;rcases List.mem_append.1 hx with hx|hx
 ·exact h x hx
 ·rw[List.eq_of_mem_replicate hx];simp[a0K]
theorem o2Q {acc:List B} {v:B} (h:acc.length<8):(t0X acc).set acc.length v=t0X (acc++ [v]):=by
 unfold t0X;obtain⟨m,hm⟩: ∃m,8-acc.length=m+1:=⟨8-acc.length-1,by omega⟩;rw[List.set_append_right _ _ (Nat.le_refl _),Nat.sub_self,hm,List.replicate_succ,List.set_cons_zero,List.length_append,List.append_assoc];simp only[List.length_cons,List.length_nil,List.singleton_append];rw[show 8- (acc.length+(0+1))=m by omega]
theorem u1Y {v:B} (hv:v.length=32): ∀ {X:List B} {i:Nat},(∀x∈X,x.length=32)→i<X.length→
 (X.flatMap (·.map a0Q)).take (i*32)++(v.map a0Q++(X.flatMap (·.map a0Q)).drop (i*32+32))=(X.set i v).flatMap (·.map a0Q)
 | [],i,_,h=>by simp at h
 |x::X,0,hx,_=>by
  have h0:=hx x (List.mem_cons_self ..);rw[List.set_cons_zero,List.flatMap_cons,List.flatMap_cons,Nat.zero_mul,List.take_zero,List.nil_append,Nat.zero_add,List.drop_left' (by rw[List.length_map,h0])]
 |x::X,i+1,hx,h=>by
  have h0:(x.map a0Q).length=32:=by rw[List.length_map];exact hx x (List.mem_cons_self ..)
  rw[List.set_cons_succ,List.flatMap_cons,List.flatMap_cons,←u1Y hv (X:=X) (i:=i) (fun y hy=>hx y (List.mem_cons_of_mem _ hy)) (by simpa using h)];rw[show(i+1)*32=(x.map a0Q).length+i*32 by omega,List.take_length_add_append (i*32),Nat.add_assoc,List.drop_length_add_append];rw[List.append_assoc]
theorem g1U {acc:List B} {v:B} {o:Nat} (hv:v.length=32) (h32: ∀x∈acc,x.length=32) (h:acc.length<8) (ho:o=acc.length*32):
 i0X ((t0X acc).flatMap (·.map a0Q)).toArray o (v.map a0Q).toArray=((t0X (acc++ [v])).flatMap (·.map a0Q)).toArray:=by
 subst ho;have hl:=i1L (n1M h32);rw[i1V (by omega)]at hl;rw[←o2Q h,←u1Y hv (n1M h32) (by rw[i1V (by omega)];exact h)];unfold i0X;apply Array.ext';simp only[Array.toList_append,Array.toList_extract,List.extract_eq_take_drop,List.drop_zero,Nat.sub_zero,List.size_toArray,List.length_map,hv,List.append_assoc];rw[List.take_of_length_le (l:=List.drop (acc.length*32+32) _) (by rw[List.length_drop];exact Nat.le_refl _)]
set_option maxRecDepth 8000 in
theorem e2I (W:World) (a:Ad) (s:St) (l:Nat) (hl:l<100) (n:Nd) (hn:o0C n):a0F prog 244 #[ptr a.maps,ndV l n] (RS W a s) (Ran fT (RS W a) d2Z (g0O l n.kids s)):=by
 have e0:g0O l n.kids s=c1E l (n.kids.drop 0) [] s:=by
  unfold c1E a0B;simp only[List.drop_zero];cases g0O l n.kids s with
  |mk o u=>cases o<;>rfl
 have hsz:(ndL l n).toArray.size=41:=by rw[List.size_toArray,p0R hn]
 have c1:(n.kids.map a0J).length=8:=by simp[hn.n]
 unfold ndV;refine en func244 ntmps244 fun R w0=> ?_;refine go 2 ?_;refine bx fun b3=> ?_;refine al fun b4=> ?_;refine go 4 ?_;refine al fun b5=> ?_;refine go 6 ?_;refine a0D (a0L Ag.o rfl (by show 0+1+8≤(ndL l n).toArray.size;rw[hsz];omega) (d0X (a:= [a0J l]) rfl c1)) ?_;refine go 4 ?_;refine a0V (X:= {y:Nat×List B // y.1≤8∧y.2.length=y.1∧(∀x∈y.2,x.length=32)∧g0O l n.kids s=c1E l (n.kids.drop y.1) y.2 s}) (fun y=> [(0,ptr a.maps),(3,ptr b3),(4,ptr b4),(5,ptr b5),(9,.agg (n.kids.map a0J).toArray),(10,.int .i64 y.1.1)]) (fun y=>RS W a s++ [pts b3 (.cells (ndL l n).toArray 182 (0,0)),pts b5 (.cells ((t0X y.1.2).flatMap (·.map a0Q)).toArray 301 (0,0)),pts b4 (.cells (List.replicate 256 (Value.int .u8 0)).toArray 301 (0,0)),R]) (fun y=>8-y.1.1) ⟨(0,[]),by omega,rfl,by simp,e0⟩ gSu gSp ?_;rintro⟨⟨i,acc⟩,hi,hal,ha32,he⟩ m0 hm0
 try simp only at hm0
 try dsimp only
 simp only at hi hal ha32 he;refine ns ?_;have hps:((t0X acc).flatMap (·.map a0Q)).toArray.size=256:=by rw[List.size_toArray,i1L (n1M ha32),i1V (by omega)]
 refine go 6 ?_;refine a0P rfl (fun hb11=> ?_) (fun hb11=> ?_)
 ·have hi8:i<8:=by have:=of_decide_eq_true hb11;omega
  have hil:i<n.kids.length:=by rw[hn.n];exact hi8
  rw[List.drop_eq_getElem_cons hil]at he;refine go 7 ?_;refine a0D (p0V Tar.o Sc.o rfl rfl (by omega) (j0I a0J n.kids i _ hil (by omega))) ?_;refine go 11 ?_;refine a0P rfl (fun hb16=> ?_) (fun hb16=> ?_)
  ·obtain rfl:l=0:=by have h:=hb16;simp only[beq_iff_eq]at h;omega
   refine go 7 ?_;refine a0X rfl Hb.o rfl (i2X W a s n.kids[i]) gSp (fun v t ho=> ?_) (fun e t ho=>by refine pn ?_;exact kx ((by rw[he];exact u1X ho)));refine ns ?_;obtain⟨hts,hvl⟩:=u1W ho;rw[hts]at ho ⊢;have hvs:(v.map a0Q).toArray.size=32:=by rw[List.size_toArray,List.length_map,hvl]
   refine go 1 ?_;refine a0M Sz.o rfl rfl hvs (fun x hx=>by simp at hx;obtain⟨_,_,rfl⟩:=hx;rfl) (by rw[hvs,hps];omega) (g1U hvl ha32 (by omega) (by omega)) ?_;refine go 6 ?_;exact rd idh (⟨(i+1,acc++ [v]),hi8,by simp[hal],by intro x hx;rcases List.mem_append.1 hx with hx|hx;(· exact ha32 x hx);(· rw[List.mem_singleton.1 hx];exact hvl),he.trans (a2Q ho)⟩)
  ·obtain⟨m,rfl⟩: ∃m,l=m+1:=⟨l-1,by have h:=hb16;simp only[beq_eq_false_iff_ne]at h;omega⟩;refine go 7 ?_;rw[show((m+1:Nat):Int)-1=(m:Int) by omega];refine a0X rfl Hb.o rfl (q0N W a s n.kids[i] m) gSp (fun x t ho=> ?_) (fun e t ho=>by refine pn ?_;exact kx ((by rw[he];exact u1X (show a0B (Go.Sb.load n.kids[i] m) (fun x=>ret x.sum) s=_ from a0I ho))));refine ns ?_;obtain⟨hts,hln⟩:=h0U ho;rw[hts]at ho ⊢;have hvs:(x.sum.map a0Q).toArray.size=32:=by rw[List.size_toArray,List.length_map,hln.sum]
   have hr1:c1C (m+1) n.kids[i] s=(.ok x.sum,s):=(a0A ho:a0B (Go.Sb.load n.kids[i] m) (fun x=>ret x.sum) s=_);refine a0D (o0Q (v:=(x.sum.map a0Q).toArray) F.fa182_2 rfl (a2P hln)) ?_;refine go 1 ?_;refine a0M Sz.o rfl rfl hvs (fun x hx=>by simp at hx;obtain⟨_,_,rfl⟩:=hx;rfl) (by rw[hvs,hps];omega) (g1U hln.sum ha32 (by omega) (by omega)) ?_;refine go 6 ?_;exact rd idh (⟨(i+1,acc++ [x.sum]),hi8,by simp[hal],by intro y hy;rcases List.mem_append.1 hy with hy|hy;(· exact ha32 y hy);(· rw[List.mem_singleton.1 hy];exact hln.sum),he.trans (a2Q hr1)⟩)
 ·obtain rfl:i=8:=by have:=of_decide_eq_false hb11;omega
  have hpa:t0X acc=acc:=by unfold t0X;rw[hal];simp
  have he1:g0O l n.kids s=(.ok acc,s):=by rw[he,List.drop_eq_nil_of_le (by rw[hn.n];exact Nat.le_refl _)];unfold c1E g0O a0B;simp[ret]
  rw[hpa]at hps ⊢;refine go 4 ?_;refine a0D (a0L Ag.o rfl (by show 0+256≤_;rw[hps];omega) (a0G hps)) ?_;refine a0M Sz.o rfl rfl hps (fun x hx=>by simp at hx;obtain⟨_,_,_,_,rfl⟩:=hx;rfl) (by rw[hps];simp) (a0N (by rw[hps];simp)) ?_;refine go 2 ?_;exact j0R he1 idh (RV.agg Ag.o rfl (by show 0+256≤_;rw[hps];omega) (a0G hps) RV.nil) rfl gSp
end
def e1M (l:Nat) (kids:List Int):M Int:=if kids=e0F then ret 0 else a0B (g0O l kids) fun ss=>e0M (j0B l {kids:=kids,sum:=e0D l ss})
def j2G (l:Nat) (n:Nd) (at_:Nat) (to_:Int):M Int:=match l with
 |0=>a0B (g0D (n.kids.getD (b0O 0 at_).1 0)) fun _=>ret to_
 |m+1=>i0F m (n.kids.getD (b0O (m+1) at_).1 0) (b0O (m+1) at_).2 to_
def n1N (l:Nat) (n:Nd) (root:Int) (at_:Nat) (to_:Int):M Int:=a0B (u0E root l) fun _=>a0B (j2G l n at_ to_) fun r=>e1M l (n.kids.set (b0O l at_).1 r)
theorem t2T (l:Nat) (root:Int) (at_:Nat) (to_:Int):i0F l root at_ to_=a0B (Go.Sb.load root l) fun n=>a0B (i0D (g0N · l) n.kids) fun _=>n1N l n root at_ to_:=by cases l<;>rfl
theorem l1H (l:Nat): ∀ {r:List Int} {s t:St} {ss:List B},g0O l r s=(.ok ss,t)→t=s∧ss.length=r.length∧ ∀x∈ss,x.length=32
 | [],s,t,ss,h=>by cases h;exact⟨rfl,rfl,by simp⟩
 |k::r,s,t,ss,h=>by
  rw[c1D]at h;cases hg:c1C l k s with
  |mk o u=>
   cases o with
   |ok v=>
    rw[a0A hg]at h;cases hg2:g0O l r u with
    |mk o2 u2=>
     cases o2 with
     |ok vs=>
      rw[a0A hg2]at h;cases h
      obtain⟨h1,h2,h3⟩:=l1H l hg2;refine⟨h1.trans (p1T hg).1,by simp[h2],fun x hx=> ?_⟩;rcases List.mem_cons.1 hx with hx|hx
      ·rw[hx];exact(p1T hg).2
      ·exact h3 x hx
     |err e=>rw[a0I hg2]at h;cases h
     |big=>unfold a0B at h;rw[hg2]at h;cases h
   |err e=>rw[a0I hg]at h;cases h
   |big=>unfold a0B at h;rw[hg]at h;cases h
theorem t2U {l:Nat} {x:Nd} (h:o0C x):(j0B l x).length=64:=by
 unfold j0B;refine e1J ?_;rw[List.length_append,List.length_append,List.length_append,h0S (k:=2) (fun a=>j0W a 2),j0W,h.n,h.sum];decide
theorem j2H {l:Int} {x:Nd} (h:o0C x) {i k:Nat} (hi:i<8) (hk:k=1+i):nth (ndL l x) k=some (a0J (x.kids.getD i 0)):=by
 subst hk;have hil:i<x.kids.length:=by rw[h.n];exact hi
 rw[b1W hil];unfold ndL;rw[d0Y,List.getElem?_append_right (by simp),List.length_singleton,Nat.add_sub_cancel_left,List.getElem?_append_left (by simpa using hil),List.getElem?_map,List.getElem?_eq_getElem hil];rfl
theorem j2I {l:Int} {x:Nd} (h:o0C x) {i k:Nat} {r:Int} (hi:i<8) (hk:k=1+i):(ndL l x).set k (.int .i64 r)=ndL l {x with kids:=x.kids.set i r} :=by
 subst hk;unfold ndL;rw[List.set_append_right _ _ (by simp),List.length_singleton,Nat.add_sub_cancel_left,List.set_append_left _ _ (by simp[h.n];exact hi),List.map_set];rfl
theorem j2J {l:Int} {x:Nd} (h:o0C x) {v:B} (hv:v.length=32):i0X (ndL l x).toArray 9 (v.map a0Q).toArray=(ndL l {x with sum:=v}).toArray:=by
 unfold i0X;apply Array.ext';have hl:=p0R (l:=l) h;simp only[Array.toList_append,Array.toList_extract,List.extract_eq_take_drop,List.drop_zero,Nat.sub_zero,List.size_toArray,List.length_map,hv,hl];rw[List.drop_eq_nil_of_le (by omega),List.take_nil,List.append_nil];unfold ndL;rw[←List.append_assoc,List.take_left' (by simp[h.n]),←List.append_assoc]
abbrev n1O (W:World) (a:Ad) (l:Nat):Prop:= ∀(s:St) (root:Int) (at_:Nat) (to_:Int),s.bits≤256→at_<1000000→(i0F l root at_ to_ s).1≠ .big→
 a0F prog 197 #[ptr a.maps,.int .i64 root,.int .i64 l,.int .i64 at_,.int .i64 to_] (RS W a s) (Ran fT (RS W a) a0J (i0F l root at_ to_ s))
set_option maxRecDepth 8000 in
theorem p1U (W:World) (hW:h0W W) (a:Ad) (l:Nat) (hl:l<3) (hrec: ∀m,l=m+1→n1O W a m):n1O W a l:=by
 intro s root at_ to_ hbits hat hnb;have e0:i0F l root at_ to_ s=_:=congrFun (t2T l root at_ to_) s;have hs1:(b0O l at_).1<8:=Nat.mod_lt _ (by decide);have hs2:(b0O l at_).2≤at_:=Nat.mod_le _ _;refine en func197 ntmps197 fun R w0=> ?_;refine go 10 ?_;refine a0X rfl Hb.o rfl (q0N W a s root l) gSp (fun x t ho=> ?_) (fun e t ho=>by refine pn ?_;exact kx ((by rw[e0];exact a0I ho)));refine ns ?_;obtain⟨hts,hln⟩:=h0U ho;rw[hts]at ho ⊢;rw[a0A ho]at e0;have hsz:(ndL l x).toArray.size=41:=by rw[List.size_toArray,p0R hln]
 have c1:(x.kids.map a0J).length=8:=by simp[hln.n]
 refine al fun b11=> ?_;refine a0M Sz.o rfl rfl hsz (f1Y _ _) (by rw[hsz];exact Nat.le_refl 41) (a0N (by rw[hsz];rfl)) ?_;refine go 6 ?_;refine a0D (a0L Ag.o rfl (by show 0+1+8≤(ndL l x).toArray.size;rw[hsz];omega) (d0X (a:= [a0J l]) rfl c1)) ?_;refine go 4 ?_;refine a0V (X:= {y:Nat×St // y.1≤8∧y.2.bits=s.bits∧i0F l root at_ to_ s=a0B (i0D (g0N · l) (x.kids.drop y.1)) (fun _=>n1N l x root at_ to_) y.2}) (fun y=> [(0,ptr a.maps),(1,.int .i64 root),(2,.int .i64 l),(3,.int .i64 at_),(4,.int .i64 to_),(11,ptr b11),(21,.agg (x.kids.map a0J).toArray),(22,.int .i64 y.1.1)]) (fun y=>RS W a y.1.2++ [pts b11 (.cells (ndL l x).toArray 182 (0,0)),R]) (fun y=>8-y.1.1) ⟨(0,s),by omega,rfl,e0⟩ gSu gSp ?_;rintro⟨⟨i,u⟩,hi,hub,he⟩ m0 hm0
 try simp only at hm0
 try dsimp only
 simp only at hi hub he;refine ns ?_;refine go 6 ?_;refine a0P rfl (fun hb23=> ?_) (fun hb23=> ?_)
 ·have hi8:i<8:=by have:=of_decide_eq_true hb23;omega
  have hil:i<x.kids.length:=by rw[hln.n];exact hi8
  rw[List.drop_eq_getElem_cons hil]at he;refine go 6 ?_;refine a0D (p0V Tar.o Sc.o rfl rfl (by omega) (j0I a0J x.kids i _ hil (by omega))) ?_;refine go 7 ?_;refine a0X rfl Hb.o rfl (l1F W a u x.kids[i] l (by rw[he]at hnb;exact u1V (f:=(g0N · l)) (c0I hnb))) gSp (fun b' t' ho=> ?_) (fun e t ho=>by refine pn ?_;exact kx ((by rw[he];exact a0I (u1U (f:=(g0N · l)) ho))));refine ns ?_;refine go 6 ?_;exact rd idh (⟨(i+1,t'),hi8,(by have:=i1R x.kids[i] l u;rw[ho]at this;exact this.trans hub),by rw[he];unfold a0B;rw[a2O (f:=(g0N · l)) ho]⟩)
 ·obtain rfl:i=8:=by have:=of_decide_eq_false hb23;omega
  have he1:i0F l root at_ to_ s=n1N l x root at_ to_ u:=by rw[he,List.drop_eq_nil_of_le (by rw[hln.n];exact Nat.le_refl _)];rfl
  clear he;refine go 7 ?_;refine a0X rfl Hb.o rfl (e1L W a l (by omega) u root (by omega) (by rw[he1]at hnb;exact c0I hnb)) gSp (fun b t0 ho=> ?_) (fun e t ho=>by refine pn ?_;exact kx ((by rw[he1];exact a0I ho)));refine ns ?_;refine go 3 ?_;have htb:t0.bits=s.bits:=by have:=x0W (l+1) root u;rw[show g0E (l+1) root u=_ from ho]at this;exact this.trans hub
  have he2:i0F l root at_ to_ s=a0B (j2G l x at_ to_) (fun r=>e1M l (x.kids.set (b0O l at_).1 r)) t0:=by rw[he1];exact a0A ho
  refine cg 3 (p1I l at_ hl hat) ?_;refine go 7 ?_;refine i0P (X:= {y:Int×St // y.2.bits=s.bits∧i0F l root at_ to_ s=e1M l (x.kids.set (b0O l at_).1 y.1) y.2}) (fun y=> [(0,ptr a.maps),(2,.int .i64 l),(11,ptr b11)]) (fun y=>RS W a y.1.2++ [pts b11 (.cells (ndL l {x with kids:=x.kids.set (b0O l at_).1 y.1.1}).toArray 182 (0,0)),R]) ?_ ?_
  ·refine go 6 ?_;refine a0P rfl (fun hb41=> ?_) (fun hb41=> ?_)
   ·obtain rfl:l=0:=by have h:=hb41;simp only[beq_iff_eq]at h;omega
    refine go 1 ?_;refine tl 8 ?_;refine go 7 ?_;refine b0X (b0M Sc.o rfl (j2H hln hs1 (by omega))) ?_;refine go 1 ?_;refine a0X rfl Hb.o rfl (b1Z W a t0 (x.kids.getD (b0O 0 at_).1 0) (by omega) (by rw[he2]at hnb;exact c0I (c0I hnb))) gSp (fun b' t' ho=> ?_) (fun e t ho=>by refine pn ?_;exact kx ((by rw[he2];exact a0I (show a0B (g0D (x.kids.getD (b0O 0 at_).1 0)) (fun _=>ret to_) t0=_ from a0I ho))));refine ns ?_;refine go 7 ?_;refine d0P Sz.o rfl rfl rfl (by rw[p0R hln,Nat.blt_eq];omega) (j2I hln hs1 (by omega)) ?_;refine go 1 ?_;exact me idh (⟨(to_,t'),(by have:=c1B (x.kids.getD (b0O 0 at_).1 0) t0;rw[ho]at this;exact this.trans htb),by rw[he2];exact a0A (show a0B (g0D (x.kids.getD (b0O 0 at_).1 0)) (fun _=>ret to_) t0=(.ok to_,t') by rw[a0A ho];rfl)⟩)
   ·obtain⟨m,hm⟩: ∃m,l=m+1:=⟨l-1,by have h:=hb41;simp only[beq_eq_false_iff_ne]at h;omega⟩;refine go 6 ?_;refine a0D (b0M Sc.o rfl (j2H hln hs1 (by omega))) ?_;refine go 2 ?_;rw[show(l:Int)-1=(m:Int) by omega];refine go 2 ?_;refine a0X rfl Hb.o rfl (hrec m hm t0 (x.kids.getD (b0O l at_).1 0) (b0O l at_).2 to_ (by omega) (by omega) (by subst hm;rw[he2]at hnb;exact c0I hnb)) gSp (fun r t' ho=> ?_) (fun e t ho=>by refine pn ?_;exact kx ((by subst hm;rw[he2];exact a0I ho)));refine ns ?_;refine go 2 ?_;refine d0P Sz.o rfl rfl rfl (by rw[p0R hln,Nat.blt_eq];omega) (j2I hln hs1 (by omega)) ?_;refine go 1 ?_;exact me idh (⟨(r,t'),(by have:=n1J m (x.kids.getD (b0O l at_).1 0) (b0O l at_).2 to_ t0;rw[ho]at this;exact this.trans htb),by subst hm;rw[he2];exact a0A ho⟩)
  rintro⟨⟨r,v⟩,hvb,he3⟩;dsimp only at hvb he3 ⊢;refine ns ?_;generalize hk:x.kids.set (b0O l at_).1 r=kids at he3 ⊢;have hkl:kids.length=8:=by rw[←hk,List.length_set,hln.n]
  have hn2:o0C {x with kids:=kids} :=⟨hkl,hln.sum⟩;have hsz2:(ndL l {x with kids:=kids}).toArray.size=41:=by rw[List.size_toArray,p0R hn2]
  refine go 3 ?_;refine a0D (a0L Ag.o rfl (by rw[hsz2];omega) (a0G hsz2)) ?_;refine cg 0 (d2T l {x with kids:=kids} hn2) ?_;refine go 2 ?_;refine a0P rfl (fun hb69=> ?_) (fun hb69=> ?_)
  ·refine go 5 ?_;exact rR idh (by rw[he3];unfold e1M;rw[if_pos (of_decide_eq_true hb69)];rfl)
  ·have he4:i0F l root at_ to_ s=a0B (g0O l kids) (fun ss=>e0M (j0B l {kids:=kids,sum:=e0D l ss})) v:=by rw[he3];unfold e1M;rw[if_neg (of_decide_eq_false hb69)]
   refine go 6 ?_;refine a0D (a0L Ag.o rfl (by rw[hsz2];omega) (a0G hsz2)) ?_;refine a0X rfl Hb.o rfl (e2I W a v l (by omega) {x with kids:=kids} hn2) gSp (fun ss t' ho=> ?_) (fun e t ho=>by refine pn ?_;exact kx ((by rw[he4];exact a0I ho)));refine ns ?_;obtain⟨htv,hsl,hs32⟩:=l1H l ho;rw[htv]at ho ⊢;rw[a0A ho]at he4;have hdl:=s0W l ss;have hds:((e0D l ss).map a0Q).toArray.size=32:=by rw[List.size_toArray,List.length_map,hdl]
   have hn3:o0C {kids:=kids,sum:=e0D l ss} :=⟨hkl,hdl⟩;have hsz3:(ndL l {kids:=kids,sum:=e0D l ss}).toArray.size=41:=by rw[List.size_toArray,p0R hn3]
   refine cg 0 (x1T W hW l (by omega) ss (by rw[hsl];exact hkl) hs32) ?_;refine go 1 ?_;refine a0M Sz.o rfl rfl hds (fun x hx=>by simp at hx;obtain⟨_,_,rfl⟩:=hx;rfl) (by rw[hds,hsz2];omega) (j2J hn2 hdl) ?_;refine go 3 ?_;refine mx (.r 0 5 (.hard 5 (.hard 6 (.soft 7 .done)))) [mpC a,pts b11 (.cells (ndL l {kids:=kids,sum:=e0D l ss}).toArray 182 (0,0))] ?_;refine go 4 ?_;refine c0V rfl (a0L Ag.o rfl (by rw[hsz3];omega) (a0G hsz3)) ?_;refine cg 1 (u1H l {kids:=kids,sum:=e0D l ss} hn3) ?_;refine go 3 ?_;refine a0X rfl Hb.o rfl (p1A W a v (j0B l {kids:=kids,sum:=e0D l ss}) (by rw[t2U hn3];omega) (by rw[he4]at hnb;exact hnb)) gSp (fun z z' ho=> ?_) (fun e t ho=>by refine pn ?_;exact kx ((by rw[he4];exact ho)));refine ns ?_;refine go 5 ?_;exact rR idh (he4.trans ho)
theorem u1Z (W:World) (hW:h0W W) (a:Ad): ∀l,l<3→n1O W a l
 |0,h=>p1U W hW a 0 h (fun m e=>by omega)
 |l+1,h=>p1U W hW a (l+1) h (fun m e=>by have e':m=l:=(Nat.succ.inj e).symm;rw[e'];exact u1Z W hW a l (by omega))
def e2J (n:Nat) (root:Int) (at_:Nat):M Int:=match n with
 |0=>ret root
 |l+1=>k0S l root at_
theorem a2R (l:Nat) (root:Int) (at_:Nat):e2J (l+1) root at_=a0B (Go.Sb.load root l) fun n=>e2J l (n.kids.getD (b0O l at_).1 0) (b0O l at_).2:=by cases l<;>rfl
theorem a2S: ∀(n:Nat) {root:Int} {at_:Nat} {s t:St} {x:Int},e2J n root at_ s=(.ok x,t)→t=s
 |0,root,at_,s,t,x,h=>by cases h;rfl
 |l+1,root,at_,s,t,x,h=>by
  rw[a2R]at h;cases hg:Go.Sb.load root l s with
  |mk o u=>
   cases o with
   |ok v=>rw[a0A hg]at h;exact(a2S l h).trans (h0U hg).1
   |err e=>rw[a0I hg]at h;cases h
   |big=>unfold a0B at h;rw[hg]at h;cases h
theorem i1W {l:Int} {x:Nd} (h:o0C x):(ndL l x).toArray.extract 1 (1+8)=(x.kids.map a0J).toArray:=d0X (a:= [a0J l]) rfl (by simp[h.n])
set_option maxRecDepth 4000 in
theorem p1V (W:World) (a:Ad) (s:St) (root:Int) (at_:Nat) (hat:at_<1000000):a0F prog 115 #[ptr a.maps,.int .i64 root,.int .i64 at_] (RS W a s) (Ran fT (RS W a) a0J (k0S 2 root at_ s)):=by
 refine en func115 ntmps115 fun R w0=> ?_;refine go 12 ?_;refine a0V (X:= {y:Nat×Int×Nat // y.1≤3∧y.2.2<1000000∧k0S 2 root at_ s=e2J y.1 y.2.1 y.2.2 s}) (fun y=> [(0,ptr a.maps),(1,.int .i64 y.1.2.1),(2,.int .i64 y.1.2.2),(7,.int .i64 ((y.1.1:Int)-1))]) (fun y=>RS W a s++ [R]) (fun y=>y.1.1) ⟨(3,root,at_),by omega,hat,rfl⟩ gSu gSp ?_;rintro⟨⟨n,r,k⟩,hi,hk,he⟩ m0 hm0
 try simp only at hm0
 try dsimp only
 simp only at hi hk he;refine ns ?_;refine go 7 ?_;refine a0P rfl (fun hb11=> ?_) (fun hb11=> ?_)
 ·obtain⟨l,rfl⟩: ∃l,n=l+1:=⟨n-1,by have:=of_decide_eq_true hb11;omega⟩;rw[a2R]at he;rw[show((l+1:Nat):Int)-1=(l:Int) by omega];have hs1:(b0O l k).1<8:=Nat.mod_lt _ (by decide);have hs2:(b0O l k).2≤k:=Nat.mod_le _ _;refine cg 8 (p1I l k (by omega) hk) ?_;refine go 11 ?_;refine a0X rfl Hb.o rfl (q0N W a s r l) gSp (fun x t ho=> ?_) (fun e t ho=>by refine pn ?_;exact kx ((by rw[he];exact a0I ho)));refine ns ?_;obtain⟨hts,hln⟩:=h0U ho;rw[hts]at ho ⊢;rw[a0A ho]at he;have hil:(b0O l k).1<x.kids.length:=by rw[hln.n];exact hs1
  refine a0D (o0Q (v:=(x.kids.map a0J).toArray) F.fa182_1 rfl (i1W hln)) ?_;refine go 1 ?_;refine a0D (p0V Tar.o Sc.o rfl rfl (by omega) (j0I a0J x.kids (b0O l k).1 _ hil (by omega))) ?_;rw[←b1W hil];refine go 10 ?_;exact rd idh (⟨(l,x.kids.getD (b0O l k).1 0,(b0O l k).2),by(show l≤3);omega,by(show(b0O l k).2<1000000);omega,he⟩)
 ·obtain rfl:n=0:=by have:=of_decide_eq_false hb11;omega
  refine go 8 ?_;exact rR idh he
theorem e1N (W:World) (hW:h0W W) (a:Ad) (s:St) (root:Int) (at_:Nat) (to_:Int) (hbits:s.bits≤256) (hat:at_<1000000) (hnb:(l0P root at_ to_ s).1≠ .big):a0F prog 163 #[ptr a.maps,.int .i64 root,.int .i64 at_,.int .i64 to_] (RS W a s) (Ran fT (RS W a) a0J (l0P root at_ to_ s)):=by
 have e0:l0P root at_ to_ s=a0B (k0S 2 root at_) (fun x=>if x=to_ then a0B (g0D to_) fun _=>ret root else i0F 2 root at_ to_) s:=rfl;refine en func163 ntmps163 fun R w0=> ?_;refine go 11 ?_;refine a0X rfl Hb.o rfl (p1V W a s root at_ hat) gSp (fun x t ho=> ?_) (fun e t ho=>by refine pn ?_;exact kx ((by rw[e0];exact a0I ho)));refine ns ?_;have hts:=a2S 3 ho;rw[hts]at ho ⊢;rw[a0A ho]at e0;refine go 4 ?_;refine a0P rfl (fun hb14=> ?_) (fun hb14=> ?_)
 ·have hx:x=to_:=by have h:=hb14;simp only[beq_iff_eq]at h;exact h
  rw[if_pos hx]at e0;refine go 7 ?_;refine a0X rfl Hb.o rfl (b1Z W a s to_ hbits (by rw[e0]at hnb;exact c0I hnb)) gSp (fun b t ho=> ?_) (fun e t ho=>by refine pn ?_;exact kx ((by rw[e0];exact a0I ho)));refine ns ?_;refine go 8 ?_;exact rR idh (e0.trans (a0A ho))
 ·have hx: ¬x=to_:=by have h:=hb14;simp only[beq_eq_false_iff_ne]at h;exact h
  rw[if_neg hx]at e0;refine go 8 ?_;refine a0X rfl Hb.o rfl (u1Z W hW a 2 (by omega) s root at_ to_ hbits hat (by rw[e0]at hnb;exact hnb)) gSp (fun r t ho=> ?_) (fun e t ho=>by refine pn ?_;exact kx ((by rw[e0];exact ho)));refine ns ?_;refine go 3 ?_;exact rR idh (e0.trans ho)
section
def RO {α:Type} (m:M α):Prop:= ∀s,(m s).2=s
theorem p0S {α β:Type} {m:M α} {f:α→M β} (h:RO m) (hf: ∀a,RO (f a)):RO (a0B m f):=fun s=>by
 unfold a0B;have h1:=h s;cases e:m s with
 |mk o t=>
  rw[e]at h1;cases o with
  |ok a=>exact(hf a t).trans h1
  |err e=>exact h1
  |big=>exact h1
theorem t0G {α:Type} (a:α):RO (ret a:M α):=fun _=>rfl
theorem f1Z {α:Type} {p:Prop} [Decidable p] {m n:M α} (h:RO m) (h':RO n):RO (if p then m else n):=by split<;>assumption
theorem g1A (at_:Int):RO (h0P at_):=fun s=>by unfold h0P;split<;>rfl
theorem a2T (a:Int) (l:Nat):RO (Go.Sb.load a l):=f1Z (t0G _) (p0S (g1A a) fun _=>fun _=>rfl)
theorem a1B: ∀l root at_,RO (k0S l root at_)
 |0,root,at_=>by unfold k0S;exact p0S (a2T _ _) fun _=>t0G _
 |l+1,root,at_=>by unfold k0S;exact p0S (a2T _ _) fun _=>a1B l _ _
theorem e1O (x:Hd): ∀n,RO (f0N x n)
 |0=>t0G _
 |n+1=>by
  unfold f0N;exact p0S (f1Z (p0S (g1A _) fun _=>f1Z (fun _=>rfl) (t0G _)) (t0G _)) fun _=>p0S (e1O x n) fun _=>t0G _
theorem a2U (a:Int):RO (k0R a):=f1Z (t0G _) (p0S (p0S (g1A a) fun _=>fun _=>rfl) fun x=>e1O x 4)
theorem n1P (x:Ent) (i:Nat):RO (o0U x i):=p0S (a1B _ _ _) a2U
theorem v1A {W:World} {a:Ad} {α:Type} {val:α→Value} {s:St} {o:Out α×St} {e:Ending} {L:List a0C} (h:o.2=s):Ran fT (fun _:St=>RS W a s) val o e L↔Ran fT (RS W a) val o e L:=by
 obtain⟨o,t⟩:=o;have h:t=s:=h;subst h;cases o<;>exact Iff.rfl
section
variable {c:Cx} {d:Option Tmp} {ty:TypeId} {pos:String} {af:Array Edge} {g:Option (Nat×Bool)} {env:List (Nat×Value)} {L M:List a0C} {a:Ad} {s:St}
theorem a2V {w:World} (h:Sat w (HL a s::M)): ∃M',Sat w (r0Q a s.next s.epoch::M'):=by
 obtain⟨x,hs⟩:=g0X.1 h;have h1:=b0J.1 hs;simp only[hlV,d0M,List.cons_append,List.nil_append]at h1;exact⟨_,(show Fnd _ (r0Q a s.next s.epoch) _ from gFd).sat h1⟩
theorem j0K {x:Operand} {t:TypeId} {k:Nat} {v:Value} (ht:f0R c.P t=true) (hx:evo env x=some (.pointer (some ⟨a.core,k,none⟩))) (hL:Fnd L (HL a s) M) (hv:nth (o0J a s.next s.epoch) k=some v):
 Sl.a0O c ⟨d,.load t x,ty,pos,af,g⟩ env L v:=
 z0K ht hx hL fun w L' hs=>by
  obtain⟨M',h1⟩:=a2V hs;have h2:=h1.pts;rw[d0Y]at hv;simp[World.cell?,h2,hv]
def HLX (a:Ad):a0C:=ex fun s:St=>HL a s
theorem a1C {x:Operand} {t:TypeId} {k:Nat} {v:Value} (ht:f0R c.P t=true) (hx:evo env x=some (.pointer (some ⟨a.core,k,none⟩))) (hL:Fnd L (HLX a) M) (hv: ∀n e,nth (o0J a n e) k=some v):
 Sl.a0O c ⟨d,.load t x,ty,pos,af,g⟩ env L v:=
 z0K ht hx hL fun w L' hs=>by
  obtain⟨s,hs⟩:=g0X.1 hs;obtain⟨M',h1⟩:=a2V hs;have h2:=h1.pts;have hv:=hv s.next s.epoch;rw[d0Y]at hv;simp[World.cell?,h2,hv]
theorem h0M {K R:List a0C} (hK:a0Z L (HL a s::K) R) (w:World) (h:Sat w L):Sat w (HLX a::K):=by
 have h1:=(h.perm hK).perm List.perm_append_comm;exact g0X.2 ⟨s,h1.drop⟩
end
abbrev r0Y (b:Nat) (x:Ent):a0C:=pts b (.cells (h0L x).toArray 50 (0,0))
theorem e1P (W:World) (a:Ad) (s:St) (id:Int):a0F prog 15 #[ptr a.core,.int .u32 id] [HL a s] (a0T (.tuple #[d0Z ((a0E id s.vols).getD h0T),.int .i64 (if(a0E id s.vols).isSome then 0 else 5)]) [HL a s]):=by
 cases hm:a0E id s.vols with
 |none=>
  refine en func15 ntmps15 fun R w0=> ?_;refine e0J gFd fun by_ gv gc o hg hok=> ?_;simp only[d0M,o0J,List.cons_append,List.nil_append];refine go 2 ?_;refine al fun b4=> ?_;refine go 10 ?_;refine a0D (p0J (ek:=e0H) (ev:=d0Z) (k:=id) d0I.o b1P (tt fun _=>trivial) trivial Zr.o rfl rfl gFd d1V) ?_;refine go 1 ?_;rw[hm];refine go 2 ?_;refine al fun b6=> ?_;refine go 19 ?_;refine b0V (d0A hg hok gSp) (p0Y idh (RV.agg Ag.o rfl (by simp[Value.cells,h0L]) (a0G (by simp[Value.cells,h0L])) (RV.tmp rfl RV.nil)) rfl gSp)
 |some x=>
  refine en func15 ntmps15 fun R w0=> ?_;refine e0J gFd fun by_ gv gc o hg hok=> ?_;simp only[d0M,o0J,List.cons_append,List.nil_append];refine go 2 ?_;refine al fun b4=> ?_;refine go 10 ?_;refine a0D (p0J (ek:=e0H) (ev:=d0Z) (k:=id) d0I.o b1P (tt fun _=>trivial) trivial Zr.o rfl rfl gFd d1V) ?_;refine go 1 ?_;rw[hm];refine go 2 ?_;refine al fun b6=> ?_;refine go 21 ?_;refine b0V (d0A hg hok gSp) (p0Y idh (RV.agg Ag.o rfl (by simp[Value.cells,h0L]) (a0G (by simp[Value.cells,h0L])) (RV.tmp rfl RV.nil)) rfl gSp)
end
theorem j2K {s:St} {id:Int} {x:Ent} (h:a0E id s.vols=some x):find id s=(.ok x,s):=by unfold find;rw[h]
theorem j2L {s:St} {id:Int} (h:a0E id s.vols=none):find id s=(.err 5,s):=by unfold find;rw[h]
theorem u0X (W:World) (a:Ad) (s:St) (id:Int):a0F prog 53 #[ptr a.core,.int .u32 id] (RS W a s) (Ran fT (RS W a) d0Z (find id s)):=by
 have hi:=e1P W a s id;cases hm:a0E id s.vols with
 |none=>
  rw[hm]at hi;rw[j2L hm];refine en func53 ntmps53 fun R w0=> ?_;refine go 2 ?_;refine al fun b4=> ?_;refine cg 6 (hi) ?_;refine go 3 ?_;refine al fun b5=> ?_;refine go 14 ?_;refine c0G rfl Hb.o rfl (c0S 5) gSp ?_;refine ns ?_;refine pn ?_;exact b0W rfl idh gSp
 |some x=>
  rw[hm]at hi;rw[j2K hm];refine en func53 ntmps53 fun R w0=> ?_;refine go 2 ?_;refine al fun b4=> ?_;refine cg 6 (hi) ?_;refine go 3 ?_;refine al fun b5=> ?_;refine go 20 ?_;exact j0R rfl idh (RV.agg Ag.o rfl (by simp[Value.cells,h0L]) (a0G (by simp[Value.cells,h0L])) RV.nil) rfl gSp
theorem c1F (W:World) (a:Ad) (s:St) (id:Int):a0F prog 66 #[ptr a.core,.int .u32 id] (RS W a s) (Ran fT (RS W a) d0Z (l0H id s)):=by
 have e0:l0H id s=a0B (find id) (fun x=>if x.only then n0Q 7 else ret x) s:=rfl;refine en func66 ntmps66 fun R w0=> ?_;refine go 2 ?_;refine al fun b4=> ?_;refine go 6 ?_;refine a0X rfl Hb.o rfl (u0X W a s id) gSp (fun x t ho=> ?_) (fun e t ho=>by refine pn ?_;exact kx ((by rw[e0];exact a0I ho)));refine ns ?_;rw[a0A ho]at e0;refine al fun b5=> ?_;refine go 10 ?_;refine a0P rfl (fun hb10=> ?_) (fun hb10=> ?_)
 ·refine go 1 ?_;refine c0G rfl Hb.o rfl (c0S 7) gSp ?_;refine ns ?_;refine pn ?_;exact b0W (by rw[e0,if_pos hb10];rfl) idh gSp
 ·have hof: ¬(x.only=true):=by rw[hb10];simp
  refine go 8 ?_;exact j0R (by rw[e0,if_neg hof];rfl) idh (RV.agg Ag.o rfl (by simp[Value.cells,h0L]) (a0G (by simp[Value.cells,h0L])) RV.nil) rfl gSp
theorem x1X {s:St} {k:Int} {v:Ent} (h:(s0D k v s).1≠ .big):s.log.length<1000000000:=t0E h fun h'=>by simp[s0D,a0B,back,h']
theorem e2K {s:St} (k:Int) (v:Ent) (h:s.log.length<1000000000):s0D k v s=(.ok (),{s with log:=bk s.depth s.log (.vols k (a0E k s.vols)),vols:=b0T k v s.vols}):=by
 simp[s0D,a0B,back,show ¬1000000000≤s.log.length by omega]
theorem u0Y (W:World) (a:Ad) (s:St) (x:Ent) (hnb:(l0Q x s).1≠ .big):a0F prog 69 #[ptr a.core,d0Z x] (RS W a s) (Ran fT (RS W a) k0I (l0Q x s)):=by
 have hn:=x1X hnb;rw[show l0Q x s=_ from e2K x.id x hn];refine en func69 ntmps69 fun R w0=> ?_
 try simp only[d0Z]
 refine e0J gFd fun by_ gv gc o hg hok=> ?_;simp only[d0M,o0J,c0Y,List.cons_append,List.nil_append];refine go 2 ?_;refine bx fun b3=> ?_;refine go 2 ?_;refine tl 14 ?_;refine ce 15 (x1H a by_ o s.log s.depth s.vols x.id x hn) ?_;rintro e _;refine ns ?_;refine go 1 ?_;refine b0G (d0A (s:= {s with log:=bk s.depth s.log (.vols x.id (a0E x.id s.vols)),vols:=b0T x.id x s.vols}) hg hok gSp) (w0D rfl rfl rfl gSp)
theorem z0G (W:World) (a:Ad) (s:St) (x:Ent) (at_ n:Int) (hnb:(g0S x at_ n s).1≠ .big):a0F prog 59 #[d0Z x,.int .i64 at_,.int .i64 n] (RS W a s) (Ran fT (RS W a) k0I (g0S x at_ n s)):=by
 have hs: ¬5000<x.size:=fun h=>hnb (by unfold g0S;rw[if_pos h]);have e0:g0S x at_ n s=l0E x at_ n s:=by unfold g0S;rw[if_neg hs]
 rw[e0];by_cases h1:at_<0
 ·rw[show l0E x at_ n s=(.err 6,s) by unfold l0E;rw[if_pos (.inl h1)];rfl];refine en func59 ntmps59 fun R w0=> ?_
  try simp only[d0Z]
  refine go 2 ?_;refine bx fun b3=> ?_;refine go 28 ?_;refine c0G rfl Hb.o rfl (c0S 6) gSp ?_;refine ns ?_;refine pn ?_;exact b0W rfl idh gSp
 ·by_cases h2:n<0
  ·rw[show l0E x at_ n s=(.err 6,s) by unfold l0E;rw[if_pos (.inr (.inl h2))];rfl];refine en func59 ntmps59 fun R w0=> ?_
   try simp only[d0Z]
   refine go 2 ?_;refine bx fun b3=> ?_;refine go 28 ?_;refine c0G rfl Hb.o rfl (c0S 6) gSp ?_;refine ns ?_;refine pn ?_;exact b0W rfl idh gSp
  ·by_cases h3:x.size<at_
   ·rw[show l0E x at_ n s=(.err 6,s) by unfold l0E;rw[if_pos (.inr (.inr (.inl h3)))];rfl];refine en func59 ntmps59 fun R w0=> ?_
    try simp only[d0Z]
    refine go 2 ?_;refine bx fun b3=> ?_;refine go 28 ?_;refine c0G rfl Hb.o rfl (c0S 6) gSp ?_;refine ns ?_;refine pn ?_;exact b0W rfl idh gSp
   ·by_cases h4:x.size-at_<n
    ·rw[show l0E x at_ n s=(.err 6,s) by unfold l0E;rw[if_pos (.inr (.inr (.inr h4)))];rfl];refine en func59 ntmps59 fun R w0=> ?_
     try simp only[d0Z]
     refine go 2 ?_;refine bx fun b3=> ?_;refine go 28 ?_;refine c0G rfl Hb.o rfl (c0S 6) gSp ?_;refine ns ?_;refine pn ?_;exact b0W rfl idh gSp
    ·rw[show l0E x at_ n s=(.ok (),s) by unfold l0E;rw[if_neg (by omega)];rfl];refine en func59 ntmps59 fun R w0=> ?_
     try simp only[d0Z]
     refine go 2 ?_;refine bx fun b3=> ?_;refine go 28 ?_;exact fR rfl
end Go.Proofs.Q

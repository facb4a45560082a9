/- Part of the proof; no statement of its own. -/
import Derived.Test.YtpinhnikemamjaaGreatDoorS18
import Derived.Test.YtpinhnikemamjaaGreatDoorS25
import Derived.Test.YtpinhnikemamjaaGreatDoorS24
import Derived.Test.YtpinhnikemamjaaGreatDoorS10
import Derived.Test.YtpinhnikemamjaaGreatDoorS23
set_option linter.all false
set_option maxRecDepth 4000
set_option maxHeartbeats 4000000
attribute [local irreducible] Go.Sl.a0P Go.Sl.OW Go.Sl.CW Go.Sl.OS Go.Sl.OM Go.Sl.OMf Go.Sl.KM
namespace Go.Proofs.Q
open Go.Sl Go.Sb Tryz
section
section
variable {α:Type} {f:α→M Unit} {x:α} {l:List α} {s t:St} {e:Int}
theorem h1G (h:f x s=(.ok (),t)):d0V f (x::l) s=d0V f l t:=by
 show a0B (f x) (fun _=>d0V f l) s=_;rw[a0A h]
theorem d1E (h:f x s=(.err e,t)):d0V f (x::l) s=(.err e,t):=by unfold d0V;rw[a0F h]
theorem k1A (h:(d0V f (x::l) s).1≠ .big):(f x s).1≠ .big:=by unfold d0V at h;exact c0I h
end
abbrev k1B (W:World) (a:Ad) (l:Nat):Prop:= ∀(s:St) (at_:Int),s.bits≤256→(g0P l at_ s).1≠ .big→a0G prog 207 #[ptr a.maps,.int .i64 at_,.int .i64 l] (RS W a s) (Ran fT (RS W a) i0S (g0P l at_ s))
abbrev k1C (W:World) (a:Ad) (l:Nat):Prop:= ∀(s:St) (at_:Int),s.bits≤256→(g0P (l+1) at_ s).1≠ .big→a0G prog 170 #[ptr a.maps,.int .i64 at_,.int .i64 l] (RS W a s) (Ran fT (RS W a) i0S (g0P (l+1) at_ s))
theorem g2F (W:World) (a:Ad):k1B W a 0:=by
 intro s at_ hbits hnb;have hr:g0P 0 at_ s=g0O at_ s:=rfl;rw[hr]at hnb ⊢;refine en func207 ntmps207 fun R w0=> ?_;refine go 15 ?_;refine a0U rfl Hb.o rfl (d1A W a s at_ hbits hnb) gSp (fun u t ho=> ?_) (fun e t ho=>by refine pn ?_;exact kx (ho));refine ns ?_;refine go 2 ?_;exact rR idh ho
theorem g2G (W:World) (a:Ad) (l:Nat) (hl:l<100) (hd:k1C W a l):k1B W a (l+1):=by
 intro s at_ hbits hnb;refine en func207 ntmps207 fun R w0=> ?_;refine go 15 ?_;rw[show((l+1:Nat):Int)-1=(l:Int) by omega];refine a0U rfl Hb.o rfl (hd s at_ hbits hnb) gSp (fun u t ho=> ?_) (fun e t ho=>by refine pn ?_;exact kx (ho));refine ns ?_;refine go 1 ?_;exact fR ho
set_option maxRecDepth 4000 in
theorem m1O (W:World) (a:Ad) (l:Nat) (hd:k1B W a l):k1C W a l:=by
 intro s at_ hbits hnb;by_cases h0:at_=0
 ·subst h0;rw[show g0P (l+1) 0 s=(.ok (),s) by unfold g0P;rw[if_pos rfl];rfl];refine en func170 ntmps170 fun R w0=> ?_;refine go 8 ?_;exact rR idh rfl
 ·have e0:g0P (l+1) at_ s=a0B (Go.Sb.load at_ l) (fun n=>a0B (e0G at_) fun b=>if b then d0V (g0P l) n.kids else ret ()) s:=by
   conv=>lhs;unfold g0P
   rw[if_neg h0]
  refine en func170 ntmps170 fun R w0=> ?_;refine go 7 ?_;refine b0S rfl (by simpa using h0) ?_;refine go 7 ?_;refine a0U rfl Hb.o rfl (p0F W a s at_ l) gSp (fun x t ho=> ?_) (fun e t ho=>by refine pn ?_;exact kx ((by rw[e0];exact a0F ho)));refine ns ?_;obtain⟨hts,hln⟩:=h0Q ho;rw[hts]at ho ⊢;rw[a0A ho]at e0;have hsz:(ndL l x).toArray.size=41:=by rw[List.size_toArray,q0F hln]
  have c1:(x.kids.map a0H).length=8:=by simp[hln.n]
  have hnb1:(e0G at_ s).1≠ .big:=by rw[e0]at hnb;exact c0I hnb
  refine al fun b6=> ?_;refine a0M Sz.o rfl rfl hsz (h1F _ _) (by rw[hsz];exact Nat.le_refl 41) (a0N (by rw[hsz];rfl)) ?_;refine go 10 ?_;refine a0U rfl Hb.o rfl (c1U W a s at_ hnb1) gSp (fun b t ho=> ?_) (fun e t ho=>by refine pn ?_;exact kx ((by rw[e0];exact a0F ho)));refine ns ?_;have ho20:=ho;rw[a0A ho20]at e0;refine go 3 ?_;refine a0O rfl (fun hb21=> ?_) (fun hb21=> ?_)
  ·have hbf:b=false:=by simpa using hb21
   exact rR idh (by rw[e0,hbf];rfl)
  ·have hbt:b=true:=by simpa using hb21
   have he0:g0P (l+1) at_ s=d0V (g0P l) (x.kids.drop 0) t:=by rw[e0,hbt];rfl
   refine go 5 ?_;refine a0D (a0K Ag.o rfl (by show 0+1+8≤(ndL l x).toArray.size;rw[hsz];omega) (d0Y (a:= [a0H l]) rfl c1)) ?_;refine go 4 ?_;refine a0V (X:= {y:Nat×St // y.1≤8∧y.2.bits=s.bits∧g0P (l+1) at_ s=d0V (g0P l) (x.kids.drop y.1) y.2}) (fun y=> [(0,ptr a.maps),(2,.int .i64 l),(23,.agg (x.kids.map a0H).toArray),(24,.int .i64 y.1.1)]) (fun y=>RS W a y.1.2++ [R]) (fun y=>8-y.1.1) ⟨(0,t),by omega,by have:=u0S at_ s;rw[ho20]at this;exact this,he0⟩ gSu gSp ?_;rintro⟨⟨i,u⟩,hi,hub,he⟩ m0 hm0
   try simp only at hm0
   try dsimp only
   simp only at hi hub he;refine ns ?_;refine go 6 ?_;refine a0O rfl (fun hb25=> ?_) (fun hb25=> ?_)
   ·have hi8:i<8:=by have:=of_decide_eq_true hb25;omega
    have hil:i<x.kids.length:=by rw[hln.n];exact hi8
    rw[List.drop_eq_getElem_cons hil]at he;refine go 6 ?_;refine a0D (o0P Tar.o Sc.o rfl rfl (by omega) (i0E a0H x.kids i _ hil (by omega))) ?_;refine go 7 ?_;refine a0U rfl Hb.o rfl (hd u x.kids[i] (by omega) (by rw[he]at hnb;exact k1A hnb)) gSp (fun b' t' ho=> ?_) (fun e t ho=>by refine pn ?_;exact kx ((by rw[he];exact d1E ho)));refine ns ?_;refine go 6 ?_;exact rd idh (⟨(i+1,t'),hi8,(by have:=y0P l x.kids[i] u;rw[ho]at this;exact this.trans hub),he.trans (h1G ho)⟩)
   ·obtain rfl:i=8:=by have:=of_decide_eq_false hb25;omega
    rw[List.drop_eq_nil_of_le (by rw[hln.n];exact Nat.le_refl _)]at he;refine go 1 ?_;exact fR he
theorem f1P (W:World) (a:Ad): ∀l,l<100→k1C W a l
 |0,_=>m1O W a 0 (g2F W a)
 |l+1,h=>m1O W a (l+1) (g2G W a l (by omega) (f1P W a l (by omega)))
end
section
theorem c2O {l:Int} {x:Nd} (h:o0T x):(ndL l x).toArray.extract 9 (9+32)=(x.sum.map a0Q).toArray:=by
 rw[show ndL l x=([a0H l]++x.kids.map a0H)++(x.sum.map a0Q++ []) by simp[ndL]];exact d0Y (by rw[List.length_append,List.length_map,h.n];rfl) (by rw[List.length_map,h.sum])
theorem w1N {at_:Int} {s t:St} {v:B} (h:r0X at_ s=(.ok v,t)):t=s∧v.length=32:=by
 unfold r0X at h;split at h
 ·cases h;exact⟨rfl,by simp[a0L]⟩
 ·cases hg:e0U at_ s with
  |mk o u=>
   cases o with
   |ok x=>rw[a0A hg]at h;cases h;exact⟨(p0E hg).1,(p0E hg).2.sum⟩
   |err e=>rw[a0F hg]at h;cases h
   |big=>unfold a0B at h;rw[hg]at h;cases h
def d1G (l:Nat) (k:Int):M B:=match l with|0=>r0X k|n+1=>a0B (Go.Sb.load k n) fun x=>ret x.sum
theorem r1C {l:Nat} {k:Int} {s t:St} {v:B} (h:d1G l k s=(.ok v,t)):t=s∧v.length=32:=by
 unfold d1G at h;cases l with
 |zero=>exact w1N h
 |succ n=>
  simp only at h;cases hg:Go.Sb.load k n s with
  |mk o u=>
   cases o with
   |ok x=>rw[a0A hg]at h;cases h;exact⟨(h0Q hg).1,(h0Q hg).2.sum⟩
   |err e=>rw[a0F hg]at h;cases h
   |big=>unfold a0B at h;rw[hg]at h;cases h
theorem d1H (l:Nat) (k:Int) (r:List Int):h0F l (k::r)=a0B (d1G l k) fun s=>a0B (h0F l r) fun r=>ret (s::r):=rfl
def d1I (l:Nat) (r:List Int) (acc:List B) (s:St):Out (List B)×St:=a0B (h0F l r) (fun r=>ret (acc++r)) s
section
variable {l:Nat} {k:Int} {r:List Int} {acc:List B} {s t:St} {v:B} {e:Int}
theorem c2P (h:d1G l k s=(.ok v,t)):d1I l (k::r) acc s=d1I l r (acc++ [v]) t:=by
 unfold d1I;rw[d1H];unfold a0B;rw[h];simp only;cases h0F l r t with
 |mk o u=>cases o<;>simp[ret]
theorem w1O (h:d1G l k s=(.err e,t)):d1I l (k::r) acc s=(.err e,t):=by
 unfold d1I;rw[d1H];unfold a0B;rw[h]
end
def u0V (acc:List B):List B:=acc++List.replicate (8-acc.length) (a0L 32)
theorem k1D {acc:List B} (h:acc.length≤8):(u0V acc).length=8:=by unfold u0V;simp;omega
theorem o1Y {acc:List B} (h: ∀x∈acc,x.length=32): ∀x∈u0V acc,x.length=32:=by
 intro x hx;unfold u0V at hx;rcases List.mem_append.1 hx with hx|hx
 ·exact h x hx
 ·rw[List.eq_of_mem_replicate hx];simp[a0L]
theorem q2U {acc:List B} {v:B} (h:acc.length<8):(u0V acc).set acc.length v=u0V (acc++ [v]):=by
 unfold u0V;obtain⟨m,hm⟩: ∃m,8-acc.length=m+1:=⟨8-acc.length-1,by omega⟩;rw[List.set_append_right _ _ (Nat.le_refl _),Nat.sub_self,hm,List.replicate_succ,List.set_cons_zero,List.length_append,List.append_assoc];simp only[List.length_cons,List.length_nil,List.singleton_append];rw[show 8- (acc.length+(0+1))=m by omega]
theorem w1P {v:B} (hv:v.length=32): ∀ {X:List B} {i:Nat},(∀x∈X,x.length=32)→i<X.length→
 (X.flatMap (·.map a0Q)).take (i*32)++(v.map a0Q++(X.flatMap (·.map a0Q)).drop (i*32+32))=(X.set i v).flatMap (·.map a0Q)
 | [],i,_,h=>by simp at h
 |x::X,0,hx,_=>by
  have h0:=hx x (List.mem_cons_self ..);rw[List.set_cons_zero,List.flatMap_cons,List.flatMap_cons,Nat.zero_mul,List.take_zero,List.nil_append,Nat.zero_add,List.drop_left' (by rw[List.length_map,h0])]
 |x::X,i+1,hx,h=>by
  have h0:(x.map a0Q).length=32:=by rw[List.length_map];exact hx x (List.mem_cons_self ..)
  rw[List.set_cons_succ,List.flatMap_cons,List.flatMap_cons,←w1P hv (X:=X) (i:=i) (fun y hy=>hx y (List.mem_cons_of_mem _ hy)) (by simpa using h)];rw[show(i+1)*32=(x.map a0Q).length+i*32 by omega,List.take_length_add_append (i*32),Nat.add_assoc,List.drop_length_add_append];rw[List.append_assoc]
theorem i1B {acc:List B} {v:B} {o:Nat} (hv:v.length=32) (h32: ∀x∈acc,x.length=32) (h:acc.length<8) (ho:o=acc.length*32):
 j0I ((u0V acc).flatMap (·.map a0Q)).toArray o (v.map a0Q).toArray=((u0V (acc++ [v])).flatMap (·.map a0Q)).toArray:=by
 subst ho;have hl:=j1T (o1Y h32);rw[k1D (by omega)]at hl;rw[←q2U h,←w1P hv (o1Y h32) (by rw[k1D (by omega)];exact h)];unfold j0I;apply Array.ext';simp only[Array.toList_append,Array.toList_extract,List.extract_eq_take_drop,List.drop_zero,Nat.sub_zero,List.size_toArray,List.length_map,hv,List.append_assoc];rw[List.take_of_length_le (l:=List.drop (acc.length*32+32) _) (by rw[List.length_drop];exact Nat.le_refl _)]
set_option maxRecDepth 8000 in
theorem g2K (W:World) (a:Ad) (s:St) (l:Nat) (hl:l<100) (n:Nd) (hn:o0T n):a0G prog 244 #[ptr a.maps,ndV l n] (RS W a s) (Ran fT (RS W a) f2Y (h0F l n.kids s)):=by
 have e0:h0F l n.kids s=d1I l (n.kids.drop 0) [] s:=by
  unfold d1I a0B;simp only[List.drop_zero];cases h0F l n.kids s with
  |mk o u=>cases o<;>rfl
 have hsz:(ndL l n).toArray.size=41:=by rw[List.size_toArray,q0F hn]
 have c1:(n.kids.map a0H).length=8:=by simp[hn.n]
 unfold ndV;refine en func244 ntmps244 fun R w0=> ?_;refine go 2 ?_;refine bx fun b3=> ?_;refine al fun b4=> ?_;refine go 4 ?_;refine al fun b5=> ?_;refine go 6 ?_;refine a0D (a0K Ag.o rfl (by show 0+1+8≤(ndL l n).toArray.size;rw[hsz];omega) (d0Y (a:= [a0H l]) rfl c1)) ?_;refine go 4 ?_;refine a0V (X:= {y:Nat×List B // y.1≤8∧y.2.length=y.1∧(∀x∈y.2,x.length=32)∧h0F l n.kids s=d1I l (n.kids.drop y.1) y.2 s}) (fun y=> [(0,ptr a.maps),(3,ptr b3),(4,ptr b4),(5,ptr b5),(9,.agg (n.kids.map a0H).toArray),(10,.int .i64 y.1.1)]) (fun y=>RS W a s++ [pts b3 (.cells (ndL l n).toArray 182 (0,0)),pts b5 (.cells ((u0V y.1.2).flatMap (·.map a0Q)).toArray 301 (0,0)),pts b4 (.cells (List.replicate 256 (Value.int .u8 0)).toArray 301 (0,0)),R]) (fun y=>8-y.1.1) ⟨(0,[]),by omega,rfl,by simp,e0⟩ gSu gSp ?_;rintro⟨⟨i,acc⟩,hi,hal,ha32,he⟩ m0 hm0
 try simp only at hm0
 try dsimp only
 simp only at hi hal ha32 he;refine ns ?_;have hps:((u0V acc).flatMap (·.map a0Q)).toArray.size=256:=by rw[List.size_toArray,j1T (o1Y ha32),k1D (by omega)]
 refine go 6 ?_;refine a0O rfl (fun hb11=> ?_) (fun hb11=> ?_)
 ·have hi8:i<8:=by have:=of_decide_eq_true hb11;omega
  have hil:i<n.kids.length:=by rw[hn.n];exact hi8
  rw[List.drop_eq_getElem_cons hil]at he;refine go 7 ?_;refine a0D (o0P Tar.o Sc.o rfl rfl (by omega) (i0E a0H n.kids i _ hil (by omega))) ?_;refine go 11 ?_;refine a0O rfl (fun hb16=> ?_) (fun hb16=> ?_)
  ·obtain rfl:l=0:=by have h:=hb16;simp only[beq_iff_eq]at h;omega
   refine go 7 ?_;refine a0U rfl Hb.o rfl (l2B W a s n.kids[i]) gSp (fun v t ho=> ?_) (fun e t ho=>by refine pn ?_;exact kx ((by rw[he];exact w1O ho)));refine ns ?_;obtain⟨hts,hvl⟩:=w1N ho;rw[hts]at ho ⊢;have hvs:(v.map a0Q).toArray.size=32:=by rw[List.size_toArray,List.length_map,hvl]
   refine go 1 ?_;refine a0M Sz.o rfl rfl hvs (fun x hx=>by simp at hx;obtain⟨_,_,rfl⟩:=hx;rfl) (by rw[hvs,hps];omega) (i1B hvl ha32 (by omega) (by omega)) ?_;refine go 6 ?_;exact rd idh (⟨(i+1,acc++ [v]),hi8,by simp[hal],by intro x hx;rcases List.mem_append.1 hx with hx|hx;(· exact ha32 x hx);(· rw[List.mem_singleton.1 hx];exact hvl),he.trans (c2P ho)⟩)
  ·obtain⟨m,rfl⟩: ∃m,l=m+1:=⟨l-1,by have h:=hb16;simp only[beq_eq_false_iff_ne]at h;omega⟩;refine go 7 ?_;rw[show((m+1:Nat):Int)-1=(m:Int) by omega];refine a0U rfl Hb.o rfl (p0F W a s n.kids[i] m) gSp (fun x t ho=> ?_) (fun e t ho=>by refine pn ?_;exact kx ((by rw[he];exact w1O (show a0B (Go.Sb.load n.kids[i] m) (fun x=>ret x.sum) s=_ from a0F ho))));refine ns ?_;obtain⟨hts,hln⟩:=h0Q ho;rw[hts]at ho ⊢;have hvs:(x.sum.map a0Q).toArray.size=32:=by rw[List.size_toArray,List.length_map,hln.sum]
   have hr1:d1G (m+1) n.kids[i] s=(.ok x.sum,s):=(a0A ho:a0B (Go.Sb.load n.kids[i] m) (fun x=>ret x.sum) s=_);refine a0D (n0S (v:=(x.sum.map a0Q).toArray) F.fa182_2 rfl (c2O hln)) ?_;refine go 1 ?_;refine a0M Sz.o rfl rfl hvs (fun x hx=>by simp at hx;obtain⟨_,_,rfl⟩:=hx;rfl) (by rw[hvs,hps];omega) (i1B hln.sum ha32 (by omega) (by omega)) ?_;refine go 6 ?_;exact rd idh (⟨(i+1,acc++ [x.sum]),hi8,by simp[hal],by intro y hy;rcases List.mem_append.1 hy with hy|hy;(· exact ha32 y hy);(· rw[List.mem_singleton.1 hy];exact hln.sum),he.trans (c2P hr1)⟩)
 ·obtain rfl:i=8:=by have:=of_decide_eq_false hb11;omega
  have hpa:u0V acc=acc:=by unfold u0V;rw[hal];simp
  have he1:h0F l n.kids s=(.ok acc,s):=by rw[he,List.drop_eq_nil_of_le (by rw[hn.n];exact Nat.le_refl _)];unfold d1I h0F a0B;simp[ret]
  rw[hpa]at hps ⊢;refine go 4 ?_;refine a0D (a0K Ag.o rfl (by show 0+256≤_;rw[hps];omega) (a0I hps)) ?_;refine a0M Sz.o rfl rfl hps (fun x hx=>by simp at hx;obtain⟨_,_,_,_,rfl⟩:=hx;rfl) (by rw[hps];simp) (a0N (by rw[hps];simp)) ?_;refine go 2 ?_;exact k0A he1 idh (RV.agg Ag.o rfl (by show 0+256≤_;rw[hps];omega) (a0I hps) RV.nil) rfl gSp
end
def f1Q (l:Nat) (kids:List Int):M Int:=if kids=e0L then ret 0 else a0B (h0F l kids) fun ss=>e0S (j0L l {kids:=kids,sum:=e0H l ss})
def l2N (l:Nat) (n:Nd) (at_:Nat) (to_:Int):M Int:=match l with
 |0=>a0B (g0O (n.kids.getD (b0Q 0 at_).1 0)) fun _=>ret to_
 |m+1=>i0W m (n.kids.getD (b0Q (m+1) at_).1 0) (b0Q (m+1) at_).2 to_
def o1Z (l:Nat) (n:Nd) (root:Int) (at_:Nat) (to_:Int):M Int:=a0B (v0D root l) fun _=>a0B (l2N l n at_ to_) fun r=>f1Q l (n.kids.set (b0Q l at_).1 r)
theorem v2R (l:Nat) (root:Int) (at_:Nat) (to_:Int):i0W l root at_ to_=a0B (Go.Sb.load root l) fun n=>a0B (d0V (h0E · l) n.kids) fun _=>o1Z l n root at_ to_:=by cases l<;>rfl
theorem m1P (l:Nat): ∀ {r:List Int} {s t:St} {ss:List B},h0F l r s=(.ok ss,t)→t=s∧ss.length=r.length∧ ∀x∈ss,x.length=32
 | [],s,t,ss,h=>by cases h;exact⟨rfl,rfl,by simp⟩
 |k::r,s,t,ss,h=>by
  rw[d1H]at h;cases hg:d1G l k s with
  |mk o u=>
   cases o with
   |ok v=>
    rw[a0A hg]at h;cases hg2:h0F l r u with
    |mk o2 u2=>
     cases o2 with
     |ok vs=>
      rw[a0A hg2]at h;cases h
      obtain⟨h1,h2,h3⟩:=m1P l hg2;refine⟨h1.trans (r1C hg).1,by simp[h2],fun x hx=> ?_⟩;rcases List.mem_cons.1 hx with hx|hx
      ·rw[hx];exact(r1C hg).2
      ·exact h3 x hx
     |err e=>rw[a0F hg2]at h;cases h
     |big=>unfold a0B at h;rw[hg2]at h;cases h
   |err e=>rw[a0F hg]at h;cases h
   |big=>unfold a0B at h;rw[hg]at h;cases h
theorem v2S {l:Nat} {x:Nd} (h:o0T x):(j0L l x).length=64:=by
 unfold j0L;refine f1N ?_;rw[List.length_append,List.length_append,List.length_append,i0J (k:=2) (fun a=>k0H a 2),k0H,h.n,h.sum];decide
theorem l2O {l:Int} {x:Nd} (h:o0T x) {i k:Nat} (hi:i<8) (hk:k=1+i):nth (ndL l x) k=some (a0H (x.kids.getD i 0)):=by
 subst hk;have hil:i<x.kids.length:=by rw[h.n];exact hi
 rw[c1X hil];unfold ndL;rw[e0F,List.getElem?_append_right (by simp),List.length_singleton,Nat.add_sub_cancel_left,List.getElem?_append_left (by simpa using hil),List.getElem?_map,List.getElem?_eq_getElem hil];rfl
theorem l2P {l:Int} {x:Nd} (h:o0T x) {i k:Nat} {r:Int} (hi:i<8) (hk:k=1+i):(ndL l x).set k (.int .i64 r)=ndL l {x with kids:=x.kids.set i r} :=by
 subst hk;unfold ndL;rw[List.set_append_right _ _ (by simp),List.length_singleton,Nat.add_sub_cancel_left,List.set_append_left _ _ (by simp[h.n];exact hi),List.map_set];rfl
theorem l2Q {l:Int} {x:Nd} (h:o0T x) {v:B} (hv:v.length=32):j0I (ndL l x).toArray 9 (v.map a0Q).toArray=(ndL l {x with sum:=v}).toArray:=by
 unfold j0I;apply Array.ext';have hl:=q0F (l:=l) h;simp only[Array.toList_append,Array.toList_extract,List.extract_eq_take_drop,List.drop_zero,Nat.sub_zero,List.size_toArray,List.length_map,hv,hl];rw[List.drop_eq_nil_of_le (by omega),List.take_nil,List.append_nil];unfold ndL;rw[←List.append_assoc,List.take_left' (by simp[h.n]),←List.append_assoc]
abbrev p1A (W:World) (a:Ad) (l:Nat):Prop:= ∀(s:St) (root:Int) (at_:Nat) (to_:Int),s.bits≤256→at_<1000000→(i0W l root at_ to_ s).1≠ .big→
 a0G prog 197 #[ptr a.maps,.int .i64 root,.int .i64 l,.int .i64 at_,.int .i64 to_] (RS W a s) (Ran fT (RS W a) a0H (i0W l root at_ to_ s))
set_option maxRecDepth 8000 in
theorem r1D (W:World) (hW:i0L W) (a:Ad) (l:Nat) (hl:l<3) (hrec: ∀m,l=m+1→p1A W a m):p1A W a l:=by
 intro s root at_ to_ hbits hat hnb;have e0:i0W l root at_ to_ s=_:=congrFun (v2R l root at_ to_) s;have hs1:(b0Q l at_).1<8:=Nat.mod_lt _ (by decide);have hs2:(b0Q l at_).2≤at_:=Nat.mod_le _ _;refine en func197 ntmps197 fun R w0=> ?_;refine go 10 ?_;refine a0U rfl Hb.o rfl (p0F W a s root l) gSp (fun x t ho=> ?_) (fun e t ho=>by refine pn ?_;exact kx ((by rw[e0];exact a0F ho)));refine ns ?_;obtain⟨hts,hln⟩:=h0Q ho;rw[hts]at ho ⊢;rw[a0A ho]at e0;have hsz:(ndL l x).toArray.size=41:=by rw[List.size_toArray,q0F hln]
 have c1:(x.kids.map a0H).length=8:=by simp[hln.n]
 refine al fun b11=> ?_;refine a0M Sz.o rfl rfl hsz (h1F _ _) (by rw[hsz];exact Nat.le_refl 41) (a0N (by rw[hsz];rfl)) ?_;refine go 6 ?_;refine a0D (a0K Ag.o rfl (by show 0+1+8≤(ndL l x).toArray.size;rw[hsz];omega) (d0Y (a:= [a0H l]) rfl c1)) ?_;refine go 4 ?_;refine a0V (X:= {y:Nat×St // y.1≤8∧y.2.bits=s.bits∧i0W l root at_ to_ s=a0B (d0V (h0E · l) (x.kids.drop y.1)) (fun _=>o1Z l x root at_ to_) y.2}) (fun y=> [(0,ptr a.maps),(1,.int .i64 root),(2,.int .i64 l),(3,.int .i64 at_),(4,.int .i64 to_),(11,ptr b11),(21,.agg (x.kids.map a0H).toArray),(22,.int .i64 y.1.1)]) (fun y=>RS W a y.1.2++ [pts b11 (.cells (ndL l x).toArray 182 (0,0)),R]) (fun y=>8-y.1.1) ⟨(0,s),by omega,rfl,e0⟩ gSu gSp ?_;rintro⟨⟨i,u⟩,hi,hub,he⟩ m0 hm0
 try simp only at hm0
 try dsimp only
 simp only at hi hub he;refine ns ?_;refine go 6 ?_;refine a0O rfl (fun hb23=> ?_) (fun hb23=> ?_)
 ·have hi8:i<8:=by have:=of_decide_eq_true hb23;omega
  have hil:i<x.kids.length:=by rw[hln.n];exact hi8
  rw[List.drop_eq_getElem_cons hil]at he;refine go 6 ?_;refine a0D (o0P Tar.o Sc.o rfl rfl (by omega) (i0E a0H x.kids i _ hil (by omega))) ?_;refine go 7 ?_;refine a0U rfl Hb.o rfl (m1N W a u x.kids[i] l (by rw[he]at hnb;exact k1A (f:=(h0E · l)) (c0I hnb))) gSp (fun b' t' ho=> ?_) (fun e t ho=>by refine pn ?_;exact kx ((by rw[he];exact a0F (d1E (f:=(h0E · l)) ho))));refine ns ?_;refine go 6 ?_;exact rd idh (⟨(i+1,t'),hi8,(by have:=j1Y x.kids[i] l u;rw[ho]at this;exact this.trans hub),by rw[he];unfold a0B;rw[h1G (f:=(h0E · l)) ho]⟩)
 ·obtain rfl:i=8:=by have:=of_decide_eq_false hb23;omega
  have he1:i0W l root at_ to_ s=o1Z l x root at_ to_ u:=by rw[he,List.drop_eq_nil_of_le (by rw[hln.n];exact Nat.le_refl _)];rfl
  clear he;refine go 7 ?_;refine a0U rfl Hb.o rfl (f1P W a l (by omega) u root (by omega) (by rw[he1]at hnb;exact c0I hnb)) gSp (fun b t0 ho=> ?_) (fun e t ho=>by refine pn ?_;exact kx ((by rw[he1];exact a0F ho)));refine ns ?_;refine go 3 ?_;have htb:t0.bits=s.bits:=by have:=y0P (l+1) root u;rw[show g0P (l+1) root u=_ from ho]at this;exact this.trans hub
  have he2:i0W l root at_ to_ s=a0B (l2N l x at_ to_) (fun r=>f1Q l (x.kids.set (b0Q l at_).1 r)) t0:=by rw[he1];exact a0A ho
  refine cg 3 (q1R l at_ hl hat) ?_;refine go 7 ?_;refine j0D (X:= {y:Int×St // y.2.bits=s.bits∧i0W l root at_ to_ s=f1Q l (x.kids.set (b0Q l at_).1 y.1) y.2}) (fun y=> [(0,ptr a.maps),(2,.int .i64 l),(11,ptr b11)]) (fun y=>RS W a y.1.2++ [pts b11 (.cells (ndL l {x with kids:=x.kids.set (b0Q l at_).1 y.1.1}).toArray 182 (0,0)),R]) ?_ ?_
  ·refine go 6 ?_;refine a0O rfl (fun hb41=> ?_) (fun hb41=> ?_)
   ·obtain rfl:l=0:=by have h:=hb41;simp only[beq_iff_eq]at h;omega
    refine go 1 ?_;refine tl 8 ?_;refine go 7 ?_;refine b0V (b0N Sc.o rfl (l2O hln hs1 (by omega))) ?_;refine go 1 ?_;refine a0U rfl Hb.o rfl (d1A W a t0 (x.kids.getD (b0Q 0 at_).1 0) (by omega) (by rw[he2]at hnb;exact c0I (c0I hnb))) gSp (fun b' t' ho=> ?_) (fun e t ho=>by refine pn ?_;exact kx ((by rw[he2];exact a0F (show a0B (g0O (x.kids.getD (b0Q 0 at_).1 0)) (fun _=>ret to_) t0=_ from a0F ho))));refine ns ?_;refine go 7 ?_;refine d0T Sz.o rfl rfl rfl (by rw[q0F hln,Nat.blt_eq];omega) (l2P hln hs1 (by omega)) ?_;refine go 1 ?_;exact me idh (⟨(to_,t'),(by have:=d1D (x.kids.getD (b0Q 0 at_).1 0) t0;rw[ho]at this;exact this.trans htb),by rw[he2];exact a0A (show a0B (g0O (x.kids.getD (b0Q 0 at_).1 0)) (fun _=>ret to_) t0=(.ok to_,t') by rw[a0A ho];rfl)⟩)
   ·obtain⟨m,hm⟩: ∃m,l=m+1:=⟨l-1,by have h:=hb41;simp only[beq_eq_false_iff_ne]at h;omega⟩;refine go 6 ?_;refine a0D (b0N Sc.o rfl (l2O hln hs1 (by omega))) ?_;refine go 2 ?_;rw[show(l:Int)-1=(m:Int) by omega];refine go 2 ?_;refine a0U rfl Hb.o rfl (hrec m hm t0 (x.kids.getD (b0Q l at_).1 0) (b0Q l at_).2 to_ (by omega) (by omega) (by subst hm;rw[he2]at hnb;exact c0I hnb)) gSp (fun r t' ho=> ?_) (fun e t ho=>by refine pn ?_;exact kx ((by subst hm;rw[he2];exact a0F ho)));refine ns ?_;refine go 2 ?_;refine d0T Sz.o rfl rfl rfl (by rw[q0F hln,Nat.blt_eq];omega) (l2P hln hs1 (by omega)) ?_;refine go 1 ?_;exact me idh (⟨(r,t'),(by have:=o1V m (x.kids.getD (b0Q l at_).1 0) (b0Q l at_).2 to_ t0;rw[ho]at this;exact this.trans htb),by subst hm;rw[he2];exact a0A ho⟩)
  rintro⟨⟨r,v⟩,hvb,he3⟩;dsimp only at hvb he3 ⊢;refine ns ?_;generalize hk:x.kids.set (b0Q l at_).1 r=kids at he3 ⊢;have hkl:kids.length=8:=by rw[←hk,List.length_set,hln.n]
  have hn2:o0T {x with kids:=kids} :=⟨hkl,hln.sum⟩;have hsz2:(ndL l {x with kids:=kids}).toArray.size=41:=by rw[List.size_toArray,q0F hn2]
  refine go 3 ?_;refine a0D (a0K Ag.o rfl (by rw[hsz2];omega) (a0I hsz2)) ?_;refine cg 0 (f2T l {x with kids:=kids} hn2) ?_;refine go 2 ?_;refine a0O rfl (fun hb69=> ?_) (fun hb69=> ?_)
  ·refine go 5 ?_;exact rR idh (by rw[he3];unfold f1Q;rw[if_pos (of_decide_eq_true hb69)];rfl)
  ·have he4:i0W l root at_ to_ s=a0B (h0F l kids) (fun ss=>e0S (j0L l {kids:=kids,sum:=e0H l ss})) v:=by rw[he3];unfold f1Q;rw[if_neg (of_decide_eq_false hb69)]
   refine go 6 ?_;refine a0D (a0K Ag.o rfl (by rw[hsz2];omega) (a0I hsz2)) ?_;refine a0U rfl Hb.o rfl (g2K W a v l (by omega) {x with kids:=kids} hn2) gSp (fun ss t' ho=> ?_) (fun e t ho=>by refine pn ?_;exact kx ((by rw[he4];exact a0F ho)));refine ns ?_;obtain⟨htv,hsl,hs32⟩:=m1P l ho;rw[htv]at ho ⊢;rw[a0A ho]at he4;have hdl:=t0M l ss;have hds:((e0H l ss).map a0Q).toArray.size=32:=by rw[List.size_toArray,List.length_map,hdl]
   have hn3:o0T {kids:=kids,sum:=e0H l ss} :=⟨hkl,hdl⟩;have hsz3:(ndL l {kids:=kids,sum:=e0H l ss}).toArray.size=41:=by rw[List.size_toArray,q0F hn3]
   refine cg 0 (z1L W hW l (by omega) ss (by rw[hsl];exact hkl) hs32) ?_;refine go 1 ?_;refine a0M Sz.o rfl rfl hds (fun x hx=>by simp at hx;obtain⟨_,_,rfl⟩:=hx;rfl) (by rw[hds,hsz2];omega) (l2Q hn2 hdl) ?_;refine go 3 ?_;refine mx (.r 0 5 (.hard 5 (.hard 6 (.soft 7 .done)))) [mpC a,pts b11 (.cells (ndL l {kids:=kids,sum:=e0H l ss}).toArray 182 (0,0))] ?_;refine go 4 ?_;refine d0A rfl (a0K Ag.o rfl (by rw[hsz3];omega) (a0I hsz3)) ?_;refine cg 1 (w1B l {kids:=kids,sum:=e0H l ss} hn3) ?_;refine go 3 ?_;refine a0U rfl Hb.o rfl (q1J W a v (j0L l {kids:=kids,sum:=e0H l ss}) (by rw[v2S hn3];omega) (by rw[he4]at hnb;exact hnb)) gSp (fun z z' ho=> ?_) (fun e t ho=>by refine pn ?_;exact kx ((by rw[he4];exact ho)));refine ns ?_;refine go 5 ?_;exact rR idh (he4.trans ho)
theorem w1Q (W:World) (hW:i0L W) (a:Ad): ∀l,l<3→p1A W a l
 |0,h=>r1D W hW a 0 h (fun m e=>by omega)
 |l+1,h=>r1D W hW a (l+1) h (fun m e=>by have e':m=l:=(Nat.succ.inj e).symm;rw[e'];exact w1Q W hW a l (by omega))
def g2L (n:Nat) (root:Int) (at_:Nat):M Int:=match n with
 |0=>ret root
 |l+1=>l0E l root at_
theorem c2Q (l:Nat) (root:Int) (at_:Nat):g2L (l+1) root at_=a0B (Go.Sb.load root l) fun n=>g2L l (n.kids.getD (b0Q l at_).1 0) (b0Q l at_).2:=by cases l<;>rfl
theorem c2R: ∀(n:Nat) {root:Int} {at_:Nat} {s t:St} {x:Int},g2L n root at_ s=(.ok x,t)→t=s
 |0,root,at_,s,t,x,h=>by cases h;rfl
 |l+1,root,at_,s,t,x,h=>by
  rw[c2Q]at h;cases hg:Go.Sb.load root l s with
  |mk o u=>
   cases o with
   |ok v=>rw[a0A hg]at h;exact(c2R l h).trans (h0Q hg).1
   |err e=>rw[a0F hg]at h;cases h
   |big=>unfold a0B at h;rw[hg]at h;cases h
theorem d1J {l:Int} {x:Nd} (h:o0T x):(ndL l x).toArray.extract 1 (1+8)=(x.kids.map a0H).toArray:=d0Y (a:= [a0H l]) rfl (by simp[h.n])
set_option maxRecDepth 4000 in
theorem r1E (W:World) (a:Ad) (s:St) (root:Int) (at_:Nat) (hat:at_<1000000):a0G prog 115 #[ptr a.maps,.int .i64 root,.int .i64 at_] (RS W a s) (Ran fT (RS W a) a0H (l0E 2 root at_ s)):=by
 refine en func115 ntmps115 fun R w0=> ?_;refine go 12 ?_;refine a0V (X:= {y:Nat×Int×Nat // y.1≤3∧y.2.2<1000000∧l0E 2 root at_ s=g2L y.1 y.2.1 y.2.2 s}) (fun y=> [(0,ptr a.maps),(1,.int .i64 y.1.2.1),(2,.int .i64 y.1.2.2),(7,.int .i64 ((y.1.1:Int)-1))]) (fun y=>RS W a s++ [R]) (fun y=>y.1.1) ⟨(3,root,at_),by omega,hat,rfl⟩ gSu gSp ?_;rintro⟨⟨n,r,k⟩,hi,hk,he⟩ m0 hm0
 try simp only at hm0
 try dsimp only
 simp only at hi hk he;refine ns ?_;refine go 7 ?_;refine a0O rfl (fun hb11=> ?_) (fun hb11=> ?_)
 ·obtain⟨l,rfl⟩: ∃l,n=l+1:=⟨n-1,by have:=of_decide_eq_true hb11;omega⟩;rw[c2Q]at he;rw[show((l+1:Nat):Int)-1=(l:Int) by omega];have hs1:(b0Q l k).1<8:=Nat.mod_lt _ (by decide);have hs2:(b0Q l k).2≤k:=Nat.mod_le _ _;refine cg 8 (q1R l k (by omega) hk) ?_;refine go 11 ?_;refine a0U rfl Hb.o rfl (p0F W a s r l) gSp (fun x t ho=> ?_) (fun e t ho=>by refine pn ?_;exact kx ((by rw[he];exact a0F ho)));refine ns ?_;obtain⟨hts,hln⟩:=h0Q ho;rw[hts]at ho ⊢;rw[a0A ho]at he;have hil:(b0Q l k).1<x.kids.length:=by rw[hln.n];exact hs1
  refine a0D (n0S (v:=(x.kids.map a0H).toArray) F.fa182_1 rfl (d1J hln)) ?_;refine go 1 ?_;refine a0D (o0P Tar.o Sc.o rfl rfl (by omega) (i0E a0H x.kids (b0Q l k).1 _ hil (by omega))) ?_;rw[←c1X hil];refine go 10 ?_;exact rd idh (⟨(l,x.kids.getD (b0Q l k).1 0,(b0Q l k).2),by(show l≤3);omega,by(show(b0Q l k).2<1000000);omega,he⟩)
 ·obtain rfl:n=0:=by have:=of_decide_eq_false hb11;omega
  refine go 8 ?_;exact rR idh he
theorem f1R (W:World) (hW:i0L W) (a:Ad) (s:St) (root:Int) (at_:Nat) (to_:Int) (hbits:s.bits≤256) (hat:at_<1000000) (hnb:(m0G root at_ to_ s).1≠ .big):a0G prog 163 #[ptr a.maps,.int .i64 root,.int .i64 at_,.int .i64 to_] (RS W a s) (Ran fT (RS W a) a0H (m0G root at_ to_ s)):=by
 have e0:m0G root at_ to_ s=a0B (l0E 2 root at_) (fun x=>if x=to_ then a0B (g0O to_) fun _=>ret root else i0W 2 root at_ to_) s:=rfl;refine en func163 ntmps163 fun R w0=> ?_;refine go 11 ?_;refine a0U rfl Hb.o rfl (r1E W a s root at_ hat) gSp (fun x t ho=> ?_) (fun e t ho=>by refine pn ?_;exact kx ((by rw[e0];exact a0F ho)));refine ns ?_;have hts:=c2R 3 ho;rw[hts]at ho ⊢;rw[a0A ho]at e0;refine go 4 ?_;refine a0O rfl (fun hb14=> ?_) (fun hb14=> ?_)
 ·have hx:x=to_:=by have h:=hb14;simp only[beq_iff_eq]at h;exact h
  rw[if_pos hx]at e0;refine go 7 ?_;refine a0U rfl Hb.o rfl (d1A W a s to_ hbits (by rw[e0]at hnb;exact c0I hnb)) gSp (fun b t ho=> ?_) (fun e t ho=>by refine pn ?_;exact kx ((by rw[e0];exact a0F ho)));refine ns ?_;refine go 8 ?_;exact rR idh (e0.trans (a0A ho))
 ·have hx: ¬x=to_:=by have h:=hb14;simp only[beq_eq_false_iff_ne]at h;exact h
  rw[if_neg hx]at e0;refine go 8 ?_;refine a0U rfl Hb.o rfl (w1Q W hW a 2 (by omega) s root at_ to_ hbits hat (by rw[e0]at hnb;exact hnb)) gSp (fun r t ho=> ?_) (fun e t ho=>by refine pn ?_;exact kx ((by rw[e0];exact ho)));refine ns ?_;refine go 3 ?_;exact rR idh (e0.trans ho)
section
def RO {α:Type} (m:M α):Prop:= ∀s,(m s).2=s
theorem q0G {α β:Type} {m:M α} {f:α→M β} (h:RO m) (hf: ∀a,RO (f a)):RO (a0B m f):=fun s=>by
 unfold a0B;have h1:=h s;cases e:m s with
 |mk o t=>
  rw[e]at h1;cases o with
  |ok a=>exact(hf a t).trans h1
  |err e=>exact h1
  |big=>exact h1
theorem u0A {α:Type} (a:α):RO (ret a:M α):=fun _=>rfl
theorem h1H {α:Type} {p:Prop} [Decidable p] {m n:M α} (h:RO m) (h':RO n):RO (if p then m else n):=by split<;>assumption
theorem h1I (at_:Int):RO (g0X at_):=fun s=>by unfold g0X;split<;>rfl
theorem c2S (a:Int) (l:Nat):RO (Go.Sb.load a l):=h1H (u0A _) (q0G (h1I a) fun _=>fun _=>rfl)
theorem b1B: ∀l root at_,RO (l0E l root at_)
 |0,root,at_=>by unfold l0E;exact q0G (c2S _ _) fun _=>u0A _
 |l+1,root,at_=>by unfold l0E;exact q0G (c2S _ _) fun _=>b1B l _ _
theorem f1T (x:Hd): ∀n,RO (g0A x n)
 |0=>u0A _
 |n+1=>by
  unfold g0A;exact q0G (h1H (q0G (h1I _) fun _=>h1H (fun _=>rfl) (u0A _)) (u0A _)) fun _=>q0G (f1T x n) fun _=>u0A _
theorem c2T (a:Int):RO (l0D a):=h1H (u0A _) (q0G (q0G (h1I a) fun _=>fun _=>rfl) fun x=>f1T x 4)
theorem p1B (x:Ent) (i:Nat):RO (p0K x i):=q0G (b1B _ _ _) c2T
theorem w1R {W:World} {a:Ad} {α:Type} {val:α→Value} {s:St} {o:Out α×St} {e:Ending} {L:List a0E} (h:o.2=s):Ran fT (fun _:St=>RS W a s) val o e L↔Ran fT (RS W a) val o e L:=by
 obtain⟨o,t⟩:=o;have h:t=s:=h;subst h;cases o<;>exact Iff.rfl
section
variable {c:Cx} {d:Option Tmp} {ty:TypeId} {pos:String} {af:Array Edge} {g:Option (Nat×Bool)} {env:List (Nat×Value)} {L M:List a0E} {a:Ad} {s:St}
theorem c2U {w:World} (h:Sat w (HL a s::M)): ∃M',Sat w (s0F a s.next s.epoch::M'):=by
 obtain⟨x,hs⟩:=g0K.1 h;have h1:=b0M.1 hs;simp only[hlV,d0B,List.cons_append,List.nil_append]at h1;exact⟨_,(show Fnd _ (s0F a s.next s.epoch) _ from gFd).sat h1⟩
theorem j0R {x:Operand} {t:TypeId} {k:Nat} {v:Value} (ht:f0Q c.P t=true) (hx:evo env x=some (.pointer (some ⟨a.core,k,none⟩))) (hL:Fnd L (HL a s) M) (hv:nth (o0F a s.next s.epoch) k=some v):
 Sl.a0P c ⟨d,.load t x,ty,pos,af,g⟩ env L v:=
 w0Z ht hx hL fun w L' hs=>by
  obtain⟨M',h1⟩:=c2U hs;have h2:=h1.pts;rw[e0F]at hv;simp[World.cell?,h2,hv]
def HLX (a:Ad):a0E:=ex fun s:St=>HL a s
theorem r0T {x:Operand} {t:TypeId} {k:Nat} {v:Value} (ht:f0Q c.P t=true) (hx:evo env x=some (.pointer (some ⟨a.core,k,none⟩))) (hL:Fnd L (HLX a) M) (hv: ∀n e,nth (o0F a n e) k=some v):
 Sl.a0P c ⟨d,.load t x,ty,pos,af,g⟩ env L v:=
 w0Z ht hx hL fun w L' hs=>by
  obtain⟨s,hs⟩:=g0K.1 hs;obtain⟨M',h1⟩:=c2U hs;have h2:=h1.pts;have hv:=hv s.next s.epoch;rw[e0F]at hv;simp[World.cell?,h2,hv]
theorem g0T {K R:List a0E} (hK:b0A L (HL a s::K) R) (w:World) (h:Sat w L):Sat w (HLX a::K):=by
 have h1:=(h.perm hK).perm List.perm_append_comm;exact g0K.2 ⟨s,h1.drop⟩
end
abbrev s0M (b:Nat) (x:Ent):a0E:=pts b (.cells (f0U x).toArray 50 (0,0))
theorem f1U (W:World) (a:Ad) (s:St) (id:Int):a0G prog 15 #[ptr a.core,.int .u32 id] [HL a s] (a0T (.tuple #[e0E ((a0C id s.vols).getD g0L),.int .i64 (if(a0C id s.vols).isSome then 0 else 5)]) [HL a s]):=by
 cases hm:a0C id s.vols with
 |none=>
  refine en func15 ntmps15 fun R w0=> ?_;refine e0C gFd fun by_ gv gc o hg hok=> ?_;simp only[d0B,o0F,List.cons_append,List.nil_append];refine go 2 ?_;refine al fun b4=> ?_;refine go 10 ?_;refine a0D (o0W (ek:=e0J) (ev:=e0E) (k:=id) c0Y.o z0Z (tt fun _=>trivial) trivial Zr.o rfl rfl gFd e1Y) ?_;refine go 1 ?_;rw[hm];refine go 2 ?_;refine al fun b6=> ?_;refine go 19 ?_;refine b0U (c0W hg hok gSp) (q0L idh (RV.agg Ag.o rfl (by simp[Value.cells,f0U]) (a0I (by simp[Value.cells,f0U])) (RV.tmp rfl RV.nil)) rfl gSp)
 |some x=>
  refine en func15 ntmps15 fun R w0=> ?_;refine e0C gFd fun by_ gv gc o hg hok=> ?_;simp only[d0B,o0F,List.cons_append,List.nil_append];refine go 2 ?_;refine al fun b4=> ?_;refine go 10 ?_;refine a0D (o0W (ek:=e0J) (ev:=e0E) (k:=id) c0Y.o z0Z (tt fun _=>trivial) trivial Zr.o rfl rfl gFd e1Y) ?_;refine go 1 ?_;rw[hm];refine go 2 ?_;refine al fun b6=> ?_;refine go 21 ?_;refine b0U (c0W hg hok gSp) (q0L idh (RV.agg Ag.o rfl (by simp[Value.cells,f0U]) (a0I (by simp[Value.cells,f0U])) (RV.tmp rfl RV.nil)) rfl gSp)
end
theorem l2T {s:St} {id:Int} {x:Ent} (h:a0C id s.vols=some x):find id s=(.ok x,s):=by unfold find;rw[h]
theorem l2U {s:St} {id:Int} (h:a0C id s.vols=none):find id s=(.err 5,s):=by unfold find;rw[h]
theorem v0X (W:World) (a:Ad) (s:St) (id:Int):a0G prog 53 #[ptr a.core,.int .u32 id] (RS W a s) (Ran fT (RS W a) e0E (find id s)):=by
 have hi:=f1U W a s id;cases hm:a0C id s.vols with
 |none=>
  rw[hm]at hi;rw[l2U hm];refine en func53 ntmps53 fun R w0=> ?_;refine go 2 ?_;refine al fun b4=> ?_;refine cg 6 (hi) ?_;refine go 3 ?_;refine al fun b5=> ?_;refine go 14 ?_;refine c0A rfl Hb.o rfl (c0M 5) gSp ?_;refine ns ?_;refine pn ?_;exact b0W rfl idh gSp
 |some x=>
  rw[hm]at hi;rw[l2T hm];refine en func53 ntmps53 fun R w0=> ?_;refine go 2 ?_;refine al fun b4=> ?_;refine cg 6 (hi) ?_;refine go 3 ?_;refine al fun b5=> ?_;refine go 20 ?_;exact k0A rfl idh (RV.agg Ag.o rfl (by simp[Value.cells,f0U]) (a0I (by simp[Value.cells,f0U])) RV.nil) rfl gSp
theorem d1K (W:World) (a:Ad) (s:St) (id:Int):a0G prog 66 #[ptr a.core,.int .u32 id] (RS W a s) (Ran fT (RS W a) e0E (l0Z id s)):=by
 have e0:l0Z id s=a0B (find id) (fun x=>if x.only then n0L 7 else ret x) s:=rfl;refine en func66 ntmps66 fun R w0=> ?_;refine go 2 ?_;refine al fun b4=> ?_;refine go 6 ?_;refine a0U rfl Hb.o rfl (v0X W a s id) gSp (fun x t ho=> ?_) (fun e t ho=>by refine pn ?_;exact kx ((by rw[e0];exact a0F ho)));refine ns ?_;rw[a0A ho]at e0;refine al fun b5=> ?_;refine go 10 ?_;refine a0O rfl (fun hb10=> ?_) (fun hb10=> ?_)
 ·refine go 1 ?_;refine c0A rfl Hb.o rfl (c0M 7) gSp ?_;refine ns ?_;refine pn ?_;exact b0W (by rw[e0,if_pos hb10];rfl) idh gSp
 ·have hof: ¬(x.only=true):=by rw[hb10];simp
  refine go 8 ?_;exact k0A (by rw[e0,if_neg hof];rfl) idh (RV.agg Ag.o rfl (by simp[Value.cells,f0U]) (a0I (by simp[Value.cells,f0U])) RV.nil) rfl gSp
theorem z1W {s:St} {k:Int} {v:Ent} (h:(s0R k v s).1≠ .big):s.log.length<1000000000:=t0W h fun h'=>by simp[s0R,a0B,back,h']
theorem g2N {s:St} (k:Int) (v:Ent) (h:s.log.length<1000000000):s0R k v s=(.ok (),{s with log:=bk s.depth s.log (.vols k (a0C k s.vols)),vols:=b0O k v s.vols}):=by
 simp[s0R,a0B,back,show ¬1000000000≤s.log.length by omega]
theorem v0Y (W:World) (a:Ad) (s:St) (x:Ent) (hnb:(m0H x s).1≠ .big):a0G prog 69 #[ptr a.core,e0E x] (RS W a s) (Ran fT (RS W a) i0S (m0H x s)):=by
 have hn:=z1W hnb;rw[show m0H x s=_ from g2N x.id x hn];refine en func69 ntmps69 fun R w0=> ?_
 try simp only[e0E]
 refine e0C gFd fun by_ gv gc o hg hok=> ?_;simp only[d0B,o0F,c0R,List.cons_append,List.nil_append];refine go 2 ?_;refine bx fun b3=> ?_;refine go 2 ?_;refine tl 14 ?_;refine ce 15 (z1B a by_ o s.log s.depth s.vols x.id x hn) ?_;rintro e _;refine ns ?_;refine go 1 ?_;refine b0F (c0W (s:= {s with log:=bk s.depth s.log (.vols x.id (a0C x.id s.vols)),vols:=b0O x.id x s.vols}) hg hok gSp) (x0B rfl rfl rfl gSp)
theorem a1F (W:World) (a:Ad) (s:St) (x:Ent) (at_ n:Int) (hnb:(h0J x at_ n s).1≠ .big):a0G prog 59 #[e0E x,.int .i64 at_,.int .i64 n] (RS W a s) (Ran fT (RS W a) i0S (h0J x at_ n s)):=by
 have hs: ¬5000<x.size:=fun h=>hnb (by unfold h0J;rw[if_pos h]);have e0:h0J x at_ n s=l0U x at_ n s:=by unfold h0J;rw[if_neg hs]
 rw[e0];by_cases h1:at_<0
 ·rw[show l0U x at_ n s=(.err 6,s) by unfold l0U;rw[if_pos (.inl h1)];rfl];refine en func59 ntmps59 fun R w0=> ?_
  try simp only[e0E]
  refine go 2 ?_;refine bx fun b3=> ?_;refine go 28 ?_;refine c0A rfl Hb.o rfl (c0M 6) gSp ?_;refine ns ?_;refine pn ?_;exact b0W rfl idh gSp
 ·by_cases h2:n<0
  ·rw[show l0U x at_ n s=(.err 6,s) by unfold l0U;rw[if_pos (.inr (.inl h2))];rfl];refine en func59 ntmps59 fun R w0=> ?_
   try simp only[e0E]
   refine go 2 ?_;refine bx fun b3=> ?_;refine go 28 ?_;refine c0A rfl Hb.o rfl (c0M 6) gSp ?_;refine ns ?_;refine pn ?_;exact b0W rfl idh gSp
  ·by_cases h3:x.size<at_
   ·rw[show l0U x at_ n s=(.err 6,s) by unfold l0U;rw[if_pos (.inr (.inr (.inl h3)))];rfl];refine en func59 ntmps59 fun R w0=> ?_
    try simp only[e0E]
    refine go 2 ?_;refine bx fun b3=> ?_;refine go 28 ?_;refine c0A rfl Hb.o rfl (c0M 6) gSp ?_;refine ns ?_;refine pn ?_;exact b0W rfl idh gSp
   ·by_cases h4:x.size-at_<n
    ·rw[show l0U x at_ n s=(.err 6,s) by unfold l0U;rw[if_pos (.inr (.inr (.inr h4)))];rfl];refine en func59 ntmps59 fun R w0=> ?_
     try simp only[e0E]
     refine go 2 ?_;refine bx fun b3=> ?_;refine go 28 ?_;refine c0A rfl Hb.o rfl (c0M 6) gSp ?_;refine ns ?_;refine pn ?_;exact b0W rfl idh gSp
    ·rw[show l0U x at_ n s=(.ok (),s) by unfold l0U;rw[if_neg (by omega)];rfl];refine en func59 ntmps59 fun R w0=> ?_
     try simp only[e0E]
     refine go 2 ?_;refine bx fun b3=> ?_;refine go 28 ?_;exact fR rfl
theorem y2H (W:World) (a:Ad) (s:St) (root:Int) (at_:Nat) (hat:at_<1000000):a0G prog 115 #[ptr a.maps,.int .i64 root,.int .i64 at_] (RS W a s) (Ran fT (fun _:St=>RS W a s) a0H (l0E 2 root at_ s)):=
 a0G.mono_ran (r1E W a s root at_ hat) (fun e L h=>(w1R (b1B 2 root at_ s)).2 h)
theorem y2I (W:World) (a:Ad) (s:St) (at_:Int):a0G prog 114 #[ptr a.st,.int .i64 at_] (RS W a s) (Ran fT (fun _:St=>RS W a s) b0C (l0D at_ s)):=
 a0G.mono_ran (q1Y W a s at_) (fun e L h=>(w1R (c2T at_ s)).2 h)
theorem l2V (W:World) (a:Ad) (s:St) (x:Ent) (i:Nat) (hi:i<1000000):a0G prog 61 #[ptr a.core,e0E x,.int .i64 i] (RS W a s) (Ran fT (fun _:St=>RS W a s) b0C (p0K x i s)):=by
 have e0:p0K x i s=a0B (l0E 2 x.root i) l0D s:=rfl;refine en func61 ntmps61 fun R w0=> ?_
 try simp only[e0E]
 refine go 2 ?_;refine bx fun b4=> ?_;refine go 4 ?_;refine mx (.r 0 14 (.hard 14 (.hard 15 (.soft 16 .done)))) [HL a s,mpC a,s0M b4 x] ?_;refine go 3 ?_;refine d0A rfl (j0R Sc.o rfl gFd rfl) ?_;refine go 6 ?_;refine d0A rfl (j0R Sc.o rfl gFd rfl) ?_;refine go 4 ?_;refine a0U rfl Hb.o rfl (y2H W a s x.root i hi) gSp (fun r t ho=> ?_) (fun e t ho=>by refine pn ?_;exact kx ((by rw[e0];exact a0F ho)));refine ns ?_;refine go 3 ?_;have hq:=ho;rw[show t=s by have:=b1B 2 x.root i s;rw[ho]at this;exact this]at hq;refine a0U rfl Hb.o rfl (y2I W a s r) gSp (fun b t' ho=> ?_) (fun e t ho=>by refine pn ?_;exact kx ((by rw[e0,a0A hq];exact ho)));refine ns ?_;refine go 5 ?_;exact rR idh (by rw[e0,a0A hq];exact ho)
theorem l2W (W:World) (a:Ad) (s:St) (x:Ent) (i:Nat) (hi:i<1000000):a0G prog 61 #[ptr a.core,e0E x,.int .i64 i] (RS W a s) (Ran fT (RS W a) b0C (p0K x i s)):=
 a0G.mono_ran (l2V W a s x i hi) (fun e L h=>(w1R (p1B x i s)).1 h)
def u0B {α:Type} (o:Out α×St):Out Unit×(St×Option α):=match o with
 | (.ok a,s)=>(.ok (),(s,some a))
 | (.err e,s)=>(.err e,(s,none))
 | (.big,s)=>(.big,(s,none))
theorem s0Z {α:Type} {o:Out α×St} {u:Unit} {x:St×Option α} (h:u0B o=(.ok u,x)): ∃a,x=(x.1,some a)∧o=(.ok a,x.1):=by
 obtain⟨o,s⟩:=o;cases o<;>(unfold u0B at h;cases h)
 exact⟨_,rfl,rfl⟩
theorem r0B {α:Type} {o:Out α×St} {e:Int} {x:St×Option α} (h:u0B o=(.err e,x)):x=(x.1,none)∧o=(.err e,x.1):=by
 obtain⟨o,s⟩:=o;cases o<;>(unfold u0B at h;cases h)
 exact⟨rfl,rfl⟩
def RSo {α:Type} (W:World) (a:Ad) (f:α→a0E):St×Option α→List a0E
 | (t,some y)=> [whole W,dkC a t.d,dkR a t.d,m0X (l0N t.d),stC a t.bits,mpC a,HL a t,f y]
 | (t,none)=>RS W a t
set_option maxRecDepth 4000 in
theorem l2X (W:World) (hW:i0L W) (a:Ad) (s:St) (b:Nat) (x:Ent) (i:Nat) (data:B) (hi:i<1000000) (hl:data.length≤1000000) (hbits:s.bits≤256) (hnb:(r0Y x i data s).1≠ .big):
 a0G prog 118 #[ptr a.core,ptr b,.int .i64 i,b0C data] (RS W a s++ [s0M b x]) (Ran fT (RSo W a (s0M b)) i0S (u0B (r0Y x i data s))):=by
 have e0:r0Y x i data s=a0B (j0E data) (fun r=>a0B (m0G x.root i r) fun q=>ret {x with root:=q}) s:=rfl;refine ns ?_;refine en func118 ntmps118 fun R w0=> ?_;refine a1U (.soft 0 (.soft 1 (.soft 2 (.soft 3 (.soft 4 (.soft 5 (.soft 6 (.soft 7 (.soft 9 (.soft 10 (.soft 11 (.soft 12 (.soft 13 (.soft 14 (.soft 15 (.soft 16 (.soft 17 (.two 8 (.hard 18 (.hard 19 (.soft 20 (.soft 21 (.hard 22 .done))))) 18 (.hard 8 (.hard 19 (.soft 20 (.soft 21 (.hard 22 .done))))))))))))))))))))))) [HLX a,mpC a] Fol.o (by kernel_rfl) (by repeat (first|with_reducible exact b0T.bp|with_reducible apply b0T.then|with_reducible apply b0T.inBlock)) (g0T gSp) ?_;refine go 4 ?_;refine d0A rfl (r0T Sc.o rfl gFd (fun _ _=>rfl)) ?_;refine go 7 ?_;refine d0A rfl (r0T Sc.o rfl gFd (fun _ _=>rfl)) ?_;refine go 4 ?_;refine p0R rfl rfl ?_ ?_
 ·refine a0D (b0N Sc.o rfl rfl) ?_;refine go 1 ?_;refine h0B (g0T gSp) ?_;refine go 1 ?_;refine a0U rfl Hb.o rfl (r1A W hW a s data hl hbits (by rw[e0]at hnb;exact c0I hnb)) gSp (fun r t ho=> ?_) (fun e t ho=>by refine pn ?_;exact kx ((show u0B (r0Y x i data s)=(.err e,(t,none)) by rw[e0,a0F ho];rfl)));refine ns ?_;refine go 1 ?_;refine h0B (g0T gSp) ?_;refine go 1 ?_;have hb1:=o1U data s;rw[ho]at hb1;have hb1:t.bits=s.bits:=hb1;have e1:=e0.trans (a0A ho);clear ho;refine a0U rfl Hb.o rfl (f1R W hW a t x.root i r (by omega) hi (by rw[e1]at hnb;exact c0I hnb)) gSp (fun q t' ho=> ?_) (fun e t ho=>by refine pn ?_;exact kx ((show u0B (r0Y x i data s)=(.err e,(t,none)) by rw[e1,a0F ho];rfl)));refine ns ?_;refine go 1 ?_;refine h0B (g0T gSp) ?_;refine go 3 ?_;refine d0T (cs':=f0U {x with root:=q}) Sz.o rfl rfl rfl (by rfl) rfl ?_;refine go 1 ?_;refine h0B (g0T gSp) ?_;refine go 1 ?_;exact fR (s:=(t',some {x with root:=q})) (by rw[e1,a0A ho];rfl)
 ·refine a0U rfl Hb.o rfl (r1A W hW a s data hl hbits (by rw[e0]at hnb;exact c0I hnb)) gSp (fun r t ho=> ?_) (fun e t ho=>by refine pn ?_;exact kx ((show u0B (r0Y x i data s)=(.err e,(t,none)) by rw[e0,a0F ho];rfl)));refine ns ?_;refine go 1 ?_;refine h0B (g0T gSp) ?_;refine go 1 ?_;refine a0D (b0N Sc.o rfl rfl) ?_;refine go 1 ?_;refine h0B (g0T gSp) ?_;refine go 1 ?_;have hb1:=o1U data s;rw[ho]at hb1;have hb1:t.bits=s.bits:=hb1;have e1:=e0.trans (a0A ho);clear ho;refine a0U rfl Hb.o rfl (f1R W hW a t x.root i r (by omega) hi (by rw[e1]at hnb;exact c0I hnb)) gSp (fun q t' ho=> ?_) (fun e t ho=>by refine pn ?_;exact kx ((show u0B (r0Y x i data s)=(.err e,(t,none)) by rw[e1,a0F ho];rfl)));refine ns ?_;refine go 1 ?_;refine h0B (g0T gSp) ?_;refine go 3 ?_;refine d0T (cs':=f0U {x with root:=q}) Sz.o rfl rfl rfl (by rfl) rfl ?_;refine go 1 ?_;refine h0B (g0T gSp) ?_;refine go 1 ?_;exact fR (s:=(t',some {x with root:=q})) (by rw[e1,a0A ho];rfl)
end Go.Proofs.Q

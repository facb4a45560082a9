/- Part of the proof; no statement of its own. -/
import Derived.Test.YtpinhnikemamjaaGreatDoorD19
import Derived.Test.YtpinhnikemamjaaGreatDoorD26
import Derived.Test.YtpinhnikemamjaaGreatDoorProg
import Derived.KernelRfl
import Derived.Test.YtpinhnikemamjaaGreatDoorD08
import Derived.Test.YtpinhnikemamjaaGreatDoorD17
import Derived.Test.YtpinhnikemamjaaGreatDoorD12
set_option linter.all false
set_option maxRecDepth 4000
set_option maxHeartbeats 4000000
attribute [local irreducible] Go.Sl.a0P Go.Sl.OW Go.Sl.CW Go.Sl.OS Go.Sl.OM Go.Sl.OMf Go.Sl.KM
namespace Go.Proofs.Q
open Go.Sl Go.Sb Tryz
section
def l0W (a:Int) (x:Hd) (l:List Int) (s:St):Out Unit×St:=a0B (d0V h0P l) (fun _ s=>match a0C (key s.bits x.sum) s.index with|some _=>(.err 9,s)|none=>(.ok (),{s with index:=b0O (key s.bits x.sum) a s.index})) s
section
variable {a:Int} {x:Hd} {k:Int} {l:List Int} {s t:St}
theorem g2H (h:(l0W a x (k::l) s).1≠ .big) (d:0<k):(e0Z k s).1≠ .big:=by
 have c:=c0I h;unfold d0V at c;have b:=c0I c;unfold h0P at b;rw[if_pos d]at b;exact c0I b
theorem g2I {e:Int} (b:0<k) (c:e0Z k s=(.err e,t)):l0W a x (k::l) s=(.err e,t):=by
 unfold l0W d0V;rw[a0F];rw[a0F];unfold h0P;rw[if_pos b,a0F c]
theorem l2L (b:0<k) (c:e0Z k s=(.ok false,t)):l0W a x (k::l) s=(.err 1,t):=by
 unfold l0W d0V;rw[a0F];rw[a0F];unfold h0P;rw[if_pos b,a0A c];rfl
theorem l2M (c:0<k) (d:e0Z k s=(.ok true,t)):l0W a x (k::l) s=l0W a x l t:=by
 have b:h0P k s=(.ok (),t):=by unfold h0P;rw[if_pos c,a0A d];rfl
 unfold l0W
 conv=>lhs;unfold d0V
 unfold a0B;rw[b]
theorem z1P (c: ¬0<k):l0W a x (k::l) s=l0W a x l s:=by
 have b:h0P k s=(.ok (),s):=by unfold h0P;rw[if_neg c];rfl
 unfold l0W
 conv=>lhs;unfold d0V
 unfold a0B;rw[b]
theorem g2J:l0W a x [] s=match a0C (key s.bits x.sum) s.index with|some _=>(.err 9,s)|none=>(.ok (),{s with index:=b0O (key s.bits x.sum) a s.index}):=by unfold l0W d0V;rw[a0A (show(ret ():M Unit) s=(.ok (),s)from rfl)]
end
set_option maxRecDepth 4000 in
theorem z1Q (W:World) (a:Ad) (s:St) (at_:Int) (N:s.bits≤256) (D:(k0B at_ s).1≠ .big):a0G prog 177 #[ptr a.st,.int .i64 at_] (RS W a s) (Ran fT (RS W a) i0S (k0B at_ s)):=by
 by_cases B:at_=0
 ·subst B;rw[show k0B 0 s=(.ok (),s) by unfold k0B;rw[if_pos rfl];rfl];refine en func177 ntmps177 fun R w0=> ?_;refine go 17 ?_;exact rR idh rfl
 ·have e0:k0B at_ s=a0B (e0Z at_) (fun b=>if b then a0B (e0U at_) (fun x s=>l0W at_ x x.at_ s)else ret ()) s:=by unfold k0B;rw[if_neg B];rfl
  have G:(e0Z at_ s).1≠ .big:=by rw[e0]at D;exact c0I D
  refine en func177 ntmps177 fun R w0=> ?_;refine go 6 ?_;refine b0Z (d0H rfl) (wg rfl rfl rfl (wFF (by simpa using B))) ?_;refine b0Z (s1A rfl) (wg rfl rfl rfl (wFF (by simpa using B))) ?_;refine b0Z (k1N Fl.o rfl) (wg rfl rfl rfl (wFF (by simpa using B))) ?_;refine b0Z (b0N Sc.o rfl (by rfl)) (wg rfl rfl rfl (wFF (by simpa using B))) ?_;refine b0Z (d0H rfl) (wg rfl rfl rfl (wFF (by simpa using B))) ?_;refine o0V (wg rfl rfl rfl (wFF (by simpa using B))) ?_;refine a0U rfl Hb.o rfl (a1D W a s at_ G) gSp (fun b t g=> ?_) (fun e t g=>by refine pn ?_;exact kx ((by rw[e0];exact a0F g)));refine ns ?_;have Q:t.bits=s.bits:=by have:=s0Y at_ s;rw[g]at this;exact this
  rw[a0A g]at e0;clear g G;refine b0Z (v0A rfl) (wg rfl rfl rfl (wFF (by simpa using B))) ?_;refine a0D (h0H rfl (by simpa using B) rfl) ?_;refine go 2 ?_;refine a0O rfl (fun q=> ?_) (fun q=> ?_)
  ·have H:b=false:=by simpa [d1F] using q
   exact rR idh (by rw[e0,H];rfl)
  ·have O:b=true:=by simpa [d1F] using q
   rw[O,if_pos rfl]at e0;refine go 6 ?_;refine a0U rfl Hb.o rfl (t0Z W a t at_) gSp (fun x t2 g=> ?_) (fun e t g=>by refine pn ?_;exact kx ((by rw[e0];exact a0F g)));refine ns ?_;obtain⟨S,l⟩:=p0E g;rw[S]at g ⊢;have P:k0B at_ s=l0W at_ x (x.at_.drop 0) t:=e0.trans (a0A (m:=e0U at_) (f:=fun x s=>l0W at_ x x.at_ s) g);have A:(hdL x).toArray.size=40:=by rw[List.size_toArray,u0Q l]
   have c1:(x.at_.map a0H).length=4:=by simp[l.n]
   refine al fun M=> ?_;refine a0M Sz.o rfl rfl A (b1A x) (by rw[A];simp[Value.cells]) (a0N (by rw[A];simp[Value.cells])) ?_;refine go 6 ?_;refine a0D (a0K Ag.o rfl (by show 0+0+4≤(hdL x).toArray.size;rw[A];omega) (d0Y (a:= []) rfl c1)) ?_;refine go 4 ?_;refine a0V (X:= {y:Nat×St // y.1≤4∧y.2.bits=s.bits∧k0B at_ s=l0W at_ x (x.at_.drop y.1) y.2}) (fun y=> [(0,ptr a.st),(1,.int .i64 at_),(4,ptr M),(25,.agg (x.at_.map a0H).toArray),(26,.int .i64 y.1.1)]) (fun y=>RS W a y.1.2++ [pts M (.cells (hdL x).toArray 230 (0,0)),R]) (fun y=>4-y.1.1) ⟨(0,t),by omega,Q,P⟩ gSu gSp ?_;rintro⟨⟨i,u⟩,hi,hub,he⟩ m0 hm0
   try simp only at hm0
   try dsimp only
   simp only at hi hub he;refine ns ?_;refine go 6 ?_;refine a0O rfl (fun w=> ?_) (fun w=> ?_)
   ·have I:i<4:=by have:=of_decide_eq_true w;omega
    have K:i<x.at_.length:=by rw[l.n];exact I
    rw[List.drop_eq_getElem_cons K]at he;refine go 6 ?_;refine a0D (o0P Tar.o Sc.o rfl rfl (by omega) (i0E a0H x.at_ i _ K (by omega))) ?_;refine go 4 ?_;by_cases c:0<x.at_[i]
    ·refine go 4 ?_;refine b0Z (d0H rfl) (wg rfl rfl rfl (wTT (by simpa using c))) ?_;refine b0Z (s1A rfl) (wg rfl rfl rfl (wTT (by simpa using c))) ?_;refine b0Z (k1N Fl.o rfl) (wg rfl rfl rfl (wTT (by simpa using c))) ?_;refine b0Z (b0N Sc.o rfl (by rfl)) (wg rfl rfl rfl (wTT (by simpa using c))) ?_;refine b0Z (d0H rfl) (wg rfl rfl rfl (wTT (by simpa using c))) ?_;refine o0V (wg rfl rfl rfl (wTT (by simpa using c))) ?_;refine a0U rfl Hb.o rfl (a1D W a u x.at_[i] (by rw[he]at D;exact g2H D c)) gSp (fun T t' g=> ?_) (fun e t g=>by refine pn ?_;exact kx ((by rw[he];exact g2I c g)));refine ns ?_;refine b0Z (v0A rfl) (wg rfl rfl rfl (wTT (by simpa using c))) ?_;refine a0D (h0V rfl (by simpa using c) rfl) ?_;refine go 2 ?_;refine a0O rfl (fun z=> ?_) (fun z=> ?_)
     ·have H:T=false:=by simpa [d1F] using z
      refine go 1 ?_;refine c0A rfl Hb.o rfl (c0M 1) gSp ?_;refine ns ?_;refine pn ?_;exact b0W (by rw[he];exact l2L c (by rw[g,H])) idh gSp
     ·have J:T=true:=by simpa [d1F] using z
      refine go 6 ?_;exact rd idh (⟨(i+1,t'),I,by have:=s0Y x.at_[i] u;rw[g]at this;exact this.trans hub,he.trans (l2M c (by rw[g,J]))⟩)
    ·refine go 4 ?_;refine c0D rfl (wg rfl rfl rfl (wTF (by simpa using c))) ?_;refine c0D rfl (wg rfl rfl rfl (wTF (by simpa using c))) ?_;refine c0D rfl (wg rfl rfl rfl (wTF (by simpa using c))) ?_;refine c0D rfl (wg rfl rfl rfl (wTF (by simpa using c))) ?_;refine c0D rfl (wg rfl rfl rfl (wTF (by simpa using c))) ?_;refine c0D rfl (wg rfl rfl rfl (wTF (by simpa using c))) ?_;refine c0D rfl (wg rfl rfl rfl (wTF (by simpa using c))) ?_;refine a0D (h0H rfl (by simpa using c) rfl) ?_;refine go 9 ?_;exact rd idh (⟨(i+1,u),I,hub,he.trans (z1P c)⟩)
   ·obtain rfl:i=4:=by have:=of_decide_eq_false w;omega
    rw[List.drop_eq_nil_of_le (by rw[l.n];exact Nat.le_refl _),g2J]at he;have C:(c0O u.bits x.sum).length=32:=by rw[h0T,l.sum]
    have j:((c0O u.bits x.sum).map a0Q).toArray.size=32:=by rw[List.size_toArray,List.length_map,C]
    refine go 3 ?_;refine fx (.r 0 6 (.float 7 (.hard 6 (.res (.hard 8 .done))))) [stC a u.bits,pts M (.cells (hdL x).toArray 230 (0,0))] ?_;refine go 1 ?_;refine h0L rfl (a0K (cs:=(hdL x).toArray) (v:=(x.sum.map a0Q).toArray) Ag.o rfl (by rw[A];omega) (c2K l)) ?_;refine go 4 ?_;refine j0Y (e0:= []) rfl gSu (fun _ _ _=>rfl) Zr.o rfl ?_;refine b0Y rfl (fun d EE FF=> ?_);refine ns ?_;refine cg 0 (t0Y x.sum u.bits l.sum (by omega)) ?_;refine go 1 ?_;refine fn (E:=EE) (F:=FF) (d.put rfl) ?_;refine l0Y (fun b7=> ?_);dsimp only;refine b0Y rfl (fun d EE FF=> ?_);refine ns ?_;refine a0M Sz.o rfl rfl j (fun x V=>by simp at V;obtain⟨_,_,rfl⟩:=V;rfl) (by rw[j];simp[Value.cells]) (a0N (by rw[j];simp[Value.cells])) ?_;refine go 1 ?_;refine fn (E:=EE) (F:=FF) d ?_;refine go 4 ?_;refine e0C gFd fun by_ gv gc o U d=> ?_;simp only[d0B,c0R,List.cons_append,List.nil_append];refine go 5 ?_;refine b0V (a0K Ag.o rfl (by rw[j];omega) (a0I j)) ?_;refine b0V (o0W (ek:=d0X) (ev:=a0H) (k:=c0O u.bits x.sum) c0Y.o y0J d.2.2.2 C Zr.o rfl rfl gFd e0I) ?_;refine go 8 ?_;by_cases L:(a0C (c0O u.bits x.sum) u.index).isSome=true
    ·refine go 4 ?_;refine d0P rfl (by simpa using L) ?_;refine go 1 ?_;refine c0A rfl Hb.o rfl (c0M 9) gSp ?_;refine ns ?_;refine pn ?_;refine b0F (c0W U d gSp) (b0W (s:=u) (by rw[he];unfold key;obtain⟨v,Z⟩:=Option.isSome_iff_exists.1 L;rw[Z]) idh gSp)
    ·refine go 4 ?_;refine b0S rfl (by simpa using L) ?_;refine go 2 ?_;refine tl 6 ?_;refine go 4 ?_;refine b0V (a0K Ag.o rfl (by rw[j];omega) (a0I j)) ?_;refine go 2 ?_;refine i0O (ek:=d0X) (ev:=a0H) (k:=c0O u.bits x.sum) (v:=at_) c0Y.o y0J d.2.2.2 C rfl rfl rfl (show Fnd _ (b0K a.ix d0X a0H u.index) _ from gFd) ?_;refine go 1 ?_;refine b0F (c0W (s:= {u with index:=b0O (key u.bits x.sum) at_ u.index}) U (by exact⟨d.1,d.2.1,d.2.2.1,fun p Y=>by rcases w1K Y with h|h;(· rw[h];exact C);(· exact d.2.2.2 p h)⟩) gSp) (x0B (by rw[he];unfold key;rw[show a0C (c0O u.bits x.sum) u.index=none by cases e:a0C (c0O u.bits x.sum) u.index with|none=>rfl|some v=>rw[e]at L;exact(L rfl).elim]) rfl rfl gSp)
end
end Go.Proofs.Q
namespace Go.Proofs.Q
open Go Go.Sl Tryz
instance:Hb prog 115:=⟨kr⟩
instance:Hb prog 161:=⟨kr⟩
instance:Hb prog 197:=⟨kr⟩
instance:Hb prog 183:=⟨kr⟩
instance:Hb prog 242:=⟨kr⟩
instance:Hb prog 243:=⟨kr⟩
instance:Hb prog 244:=⟨kr⟩
instance:Hb prog 245:=⟨kr⟩
theorem F.fa182_2:Sl.n0R prog 182 2 9 32 true=true:=by kernel_rfl
instance:Hb prog 280:=⟨kr⟩
instance:Sz prog 301 256:=⟨kr⟩
end Go.Proofs.Q
namespace Go.Proofs.Q
open Go.Sl Go.Sb Tryz
section
theorem c2O {l:Int} {x:Nd} (h:o0T x):(ndL l x).toArray.extract 9 (9+32)=(x.sum.map a0Q).toArray:=by
 rw[show ndL l x=([a0H l]++x.kids.map a0H)++(x.sum.map a0Q++ []) by simp[ndL]];exact d0Y (by rw[List.length_append,List.length_map,h.n];rfl) (by rw[List.length_map,h.sum])
theorem w1N {at_:Int} {s t:St} {v:B} (h:r0X at_ s=(.ok v,t)):t=s∧v.length=32:=by
 unfold r0X at h;split at h
 ·cases h;exact⟨rfl,by simp[a0L]⟩
 ·cases a:e0U at_ s with
  |mk o u=>
   cases o with
   |ok x=>rw[a0A a]at h;cases h;exact⟨(p0E a).1,(p0E a).2.sum⟩
   |err e=>rw[a0F a]at h;cases h
   |big=>unfold a0B at h;rw[a]at h;cases h
def d1G (l:Nat) (k:Int):M B:=match l with|0=>r0X k|n+1=>a0B (Go.Sb.load k n) fun x=>ret x.sum
theorem r1C {l:Nat} {k:Int} {s t:St} {v:B} (h:d1G l k s=(.ok v,t)):t=s∧v.length=32:=by
 unfold d1G at h;cases l with
 |zero=>exact w1N h
 |succ n=>
  simp only at h;cases a:Go.Sb.load k n s with
  |mk o u=>
   cases o with
   |ok x=>rw[a0A a]at h;cases h;exact⟨(h0Q a).1,(h0Q a).2.sum⟩
   |err e=>rw[a0F a]at h;cases h
   |big=>unfold a0B at h;rw[a]at h;cases h
theorem d1H (l:Nat) (k:Int) (r:List Int):h0F l (k::r)=a0B (d1G l k) fun s=>a0B (h0F l r) fun r=>ret (s::r):=rfl
def d1I (l:Nat) (r:List Int) (acc:List B) (s:St):Out (List B)×St:=a0B (h0F l r) (fun r=>ret (acc++r)) s
section
variable {l:Nat} {k:Int} {r:List Int} {acc:List B} {s t:St} {v:B} {e:Int}
theorem c2P (h:d1G l k s=(.ok v,t)):d1I l (k::r) acc s=d1I l r (acc++ [v]) t:=by
 unfold d1I;rw[d1H];unfold a0B;rw[h];simp only;cases h0F l r t with
 |mk o u=>cases o<;>simp[ret]
theorem w1O (h:d1G l k s=(.err e,t)):d1I l (k::r) acc s=(.err e,t):=by
 unfold d1I;rw[d1H];unfold a0B;rw[h]
end
def u0V (acc:List B):List B:=acc++List.replicate (8-acc.length) (a0L 32)
theorem k1D {acc:List B} (h:acc.length≤8):(u0V acc).length=8:=by unfold u0V;simp;omega
theorem o1Y {acc:List B} (h: ∀x∈acc,x.length=32): ∀x∈u0V acc,x.length=32:=by
 intro x a;unfold u0V at a;rcases List.mem_append.1 a with a|a
 ·exact h x a
 ·rw[List.eq_of_mem_replicate a];simp[a0L]
theorem q2U {acc:List B} {v:B} (h:acc.length<8):(u0V acc).set acc.length v=u0V (acc++ [v]):=by
 unfold u0V;obtain⟨m,a⟩: ∃m,8-acc.length=m+1:=⟨8-acc.length-1,by omega⟩;rw[List.set_append_right _ _ (Nat.le_refl _),Nat.sub_self,a,List.replicate_succ,List.set_cons_zero,List.length_append,List.append_assoc];simp only[List.length_cons,List.length_nil,List.singleton_append];rw[show 8- (acc.length+(0+1))=m by omega]
theorem w1P {v:B} (b:v.length=32): ∀ {X:List B} {i:Nat},(∀x∈X,x.length=32)→i<X.length→
 (X.flatMap (·.map a0Q)).take (i*32)++(v.map a0Q++(X.flatMap (·.map a0Q)).drop (i*32+32))=(X.set i v).flatMap (·.map a0Q)
 | [],i,_,h=>by simp at h
 |x::X,0,hx,_=>by
  have a:=hx x (List.mem_cons_self ..);rw[List.set_cons_zero,List.flatMap_cons,List.flatMap_cons,Nat.zero_mul,List.take_zero,List.nil_append,Nat.zero_add,List.drop_left' (by rw[List.length_map,a])]
 |x::X,i+1,hx,h=>by
  have a:(x.map a0Q).length=32:=by rw[List.length_map];exact hx x (List.mem_cons_self ..)
  rw[List.set_cons_succ,List.flatMap_cons,List.flatMap_cons,←w1P b (X:=X) (i:=i) (fun y c=>hx y (List.mem_cons_of_mem _ c)) (by simpa using h)];rw[show(i+1)*32=(x.map a0Q).length+i*32 by omega,List.take_length_add_append (i*32),Nat.add_assoc,List.drop_length_add_append];rw[List.append_assoc]
theorem i1B {acc:List B} {v:B} {o:Nat} (b:v.length=32) (a: ∀x∈acc,x.length=32) (h:acc.length<8) (d:o=acc.length*32):
 j0I ((u0V acc).flatMap (·.map a0Q)).toArray o (v.map a0Q).toArray=((u0V (acc++ [v])).flatMap (·.map a0Q)).toArray:=by
 subst d;have c:=j1T (o1Y a);rw[k1D (by omega)]at c;rw[←q2U h,←w1P b (o1Y a) (by rw[k1D (by omega)];exact h)];unfold j0I;apply Array.ext';simp only[Array.toList_append,Array.toList_extract,List.extract_eq_take_drop,List.drop_zero,Nat.sub_zero,List.size_toArray,List.length_map,b,List.append_assoc];rw[List.take_of_length_le (l:=List.drop (acc.length*32+32) _) (by rw[List.length_drop];exact Nat.le_refl _)]
set_option maxRecDepth 8000 in
theorem g2K (W:World) (a:Ad) (s:St) (l:Nat) (K:l<100) (n:Nd) (A:o0T n):a0G prog 244 #[ptr a.maps,ndV l n] (RS W a s) (Ran fT (RS W a) f2Y (h0F l n.kids s)):=by
 have e0:h0F l n.kids s=d1I l (n.kids.drop 0) [] s:=by
  unfold d1I a0B;simp only[List.drop_zero];cases h0F l n.kids s with
  |mk o u=>cases o<;>rfl
 have G:(ndL l n).toArray.size=41:=by rw[List.size_toArray,q0F A]
 have c1:(n.kids.map a0H).length=8:=by simp[A.n]
 unfold ndV;refine en func244 ntmps244 fun R w0=> ?_;refine go 2 ?_;refine bx fun H=> ?_;refine al fun I=> ?_;refine go 4 ?_;refine al fun J=> ?_;refine go 6 ?_;refine a0D (a0K Ag.o rfl (by show 0+1+8≤(ndL l n).toArray.size;rw[G];omega) (d0Y (a:= [a0H l]) rfl c1)) ?_;refine go 4 ?_;refine a0V (X:= {y:Nat×List B // y.1≤8∧y.2.length=y.1∧(∀x∈y.2,x.length=32)∧h0F l n.kids s=d1I l (n.kids.drop y.1) y.2 s}) (fun y=> [(0,ptr a.maps),(3,ptr H),(4,ptr I),(5,ptr J),(9,.agg (n.kids.map a0H).toArray),(10,.int .i64 y.1.1)]) (fun y=>RS W a s++ [pts H (.cells (ndL l n).toArray 182 (0,0)),pts J (.cells ((u0V y.1.2).flatMap (·.map a0Q)).toArray 301 (0,0)),pts I (.cells (List.replicate 256 (Value.int .u8 0)).toArray 301 (0,0)),R]) (fun y=>8-y.1.1) ⟨(0,[]),by omega,rfl,by simp,e0⟩ gSu gSp ?_;rintro⟨⟨i,acc⟩,hi,hal,ha32,he⟩ m0 hm0
 try simp only at hm0
 try dsimp only
 simp only at hi hal ha32 he;refine ns ?_;have b:((u0V acc).flatMap (·.map a0Q)).toArray.size=256:=by rw[List.size_toArray,j1T (o1Y ha32),k1D (by omega)]
 refine go 6 ?_;refine a0O rfl (fun d=> ?_) (fun d=> ?_)
 ·have p:i<8:=by have:=of_decide_eq_true d;omega
  have w:i<n.kids.length:=by rw[A.n];exact p
  rw[List.drop_eq_getElem_cons w]at he;refine go 7 ?_;refine a0D (o0P Tar.o Sc.o rfl rfl (by omega) (i0E a0H n.kids i _ w (by omega))) ?_;refine go 11 ?_;refine a0O rfl (fun f=> ?_) (fun f=> ?_)
  ·obtain rfl:l=0:=by have h:=f;simp only[beq_iff_eq]at h;omega
   refine go 7 ?_;refine a0U rfl Hb.o rfl (l2B W a s n.kids[i]) gSp (fun v t g=> ?_) (fun e t g=>by refine pn ?_;exact kx ((by rw[he];exact w1O g)));refine ns ?_;obtain⟨q,r⟩:=w1N g;rw[q]at g ⊢;have j:(v.map a0Q).toArray.size=32:=by rw[List.size_toArray,List.length_map,r]
   refine go 1 ?_;refine a0M Sz.o rfl rfl j (fun x c=>by simp at c;obtain⟨_,_,rfl⟩:=c;rfl) (by rw[j,b];omega) (i1B r ha32 (by omega) (by omega)) ?_;refine go 6 ?_;exact rd idh (⟨(i+1,acc++ [v]),p,by simp[hal],by intro x c;rcases List.mem_append.1 c with c|c;(· exact ha32 x c);(· rw[List.mem_singleton.1 c];exact r),he.trans (c2P g)⟩)
  ·obtain⟨m,rfl⟩: ∃m,l=m+1:=⟨l-1,by have h:=f;simp only[beq_eq_false_iff_ne]at h;omega⟩;refine go 7 ?_;rw[show((m+1:Nat):Int)-1=(m:Int) by omega];refine a0U rfl Hb.o rfl (p0F W a s n.kids[i] m) gSp (fun x t g=> ?_) (fun e t g=>by refine pn ?_;exact kx ((by rw[he];exact w1O (show a0B (Go.Sb.load n.kids[i] m) (fun x=>ret x.sum) s=_ from a0F g))));refine ns ?_;obtain⟨q,k⟩:=h0Q g;rw[q]at g ⊢;have j:(x.sum.map a0Q).toArray.size=32:=by rw[List.size_toArray,List.length_map,k.sum]
   have E:d1G (m+1) n.kids[i] s=(.ok x.sum,s):=(a0A g:a0B (Go.Sb.load n.kids[i] m) (fun x=>ret x.sum) s=_);refine a0D (n0S (v:=(x.sum.map a0Q).toArray) F.fa182_2 rfl (c2O k)) ?_;refine go 1 ?_;refine a0M Sz.o rfl rfl j (fun x c=>by simp at c;obtain⟨_,_,rfl⟩:=c;rfl) (by rw[j,b];omega) (i1B k.sum ha32 (by omega) (by omega)) ?_;refine go 6 ?_;exact rd idh (⟨(i+1,acc++ [x.sum]),p,by simp[hal],by intro y z;rcases List.mem_append.1 z with z|z;(· exact ha32 y z);(· rw[List.mem_singleton.1 z];exact k.sum),he.trans (c2P E)⟩)
 ·obtain rfl:i=8:=by have:=of_decide_eq_false d;omega
  have D:u0V acc=acc:=by unfold u0V;rw[hal];simp
  have C:h0F l n.kids s=(.ok acc,s):=by rw[he,List.drop_eq_nil_of_le (by rw[A.n];exact Nat.le_refl _)];unfold d1I h0F a0B;simp[ret]
  rw[D]at b ⊢;refine go 4 ?_;refine a0D (a0K Ag.o rfl (by show 0+256≤_;rw[b];omega) (a0I b)) ?_;refine a0M Sz.o rfl rfl b (fun x c=>by simp at c;obtain⟨_,_,_,_,rfl⟩:=c;rfl) (by rw[b];simp) (a0N (by rw[b];simp)) ?_;refine go 2 ?_;exact k0A C idh (RV.agg Ag.o rfl (by show 0+256≤_;rw[b];omega) (a0I b) RV.nil) rfl gSp
end
def f1Q (l:Nat) (kids:List Int):M Int:=if kids=e0L then ret 0 else a0B (h0F l kids) fun ss=>e0S (j0L l {kids:=kids,sum:=e0H l ss})
def l2N (l:Nat) (n:Nd) (at_:Nat) (to_:Int):M Int:=match l with
 |0=>a0B (g0O (n.kids.getD (b0Q 0 at_).1 0)) fun _=>ret to_
 |m+1=>i0W m (n.kids.getD (b0Q (m+1) at_).1 0) (b0Q (m+1) at_).2 to_
def o1Z (l:Nat) (n:Nd) (root:Int) (at_:Nat) (to_:Int):M Int:=a0B (v0D root l) fun _=>a0B (l2N l n at_ to_) fun r=>f1Q l (n.kids.set (b0Q l at_).1 r)
theorem v2R (l:Nat) (root:Int) (at_:Nat) (to_:Int):i0W l root at_ to_=a0B (Go.Sb.load root l) fun n=>a0B (d0V (h0E · l) n.kids) fun _=>o1Z l n root at_ to_:=by cases l<;>rfl
theorem m1P (l:Nat): ∀ {r:List Int} {s t:St} {ss:List B},h0F l r s=(.ok ss,t)→t=s∧ss.length=r.length∧ ∀x∈ss,x.length=32
 | [],s,t,ss,h=>by cases h;exact⟨rfl,rfl,by simp⟩
 |k::r,s,t,ss,h=>by
  rw[d1H]at h;cases b:d1G l k s with
  |mk o u=>
   cases o with
   |ok v=>
    rw[a0A b]at h;cases a:h0F l r u with
    |mk o2 u2=>
     cases o2 with
     |ok vs=>
      rw[a0A a]at h;cases h
      obtain⟨d,f,g⟩:=m1P l a;refine⟨d.trans (r1C b).1,by simp[f],fun x c=> ?_⟩;rcases List.mem_cons.1 c with c|c
      ·rw[c];exact(r1C b).2
      ·exact g x c
     |err e=>rw[a0F a]at h;cases h
     |big=>unfold a0B at h;rw[a]at h;cases h
   |err e=>rw[a0F b]at h;cases h
   |big=>unfold a0B at h;rw[b]at h;cases h
theorem v2S {l:Nat} {x:Nd} (h:o0T x):(j0L l x).length=64:=by
 unfold j0L;refine f1N ?_;rw[List.length_append,List.length_append,List.length_append,i0J (k:=2) (fun a=>k0H a 2),k0H,h.n,h.sum];decide
theorem l2O {l:Int} {x:Nd} (h:o0T x) {i k:Nat} (hi:i<8) (b:k=1+i):nth (ndL l x) k=some (a0H (x.kids.getD i 0)):=by
 subst b;have a:i<x.kids.length:=by rw[h.n];exact hi
 rw[c1X a];unfold ndL;rw[e0F,List.getElem?_append_right (by simp),List.length_singleton,Nat.add_sub_cancel_left,List.getElem?_append_left (by simpa using a),List.getElem?_map,List.getElem?_eq_getElem a];rfl
theorem l2P {l:Int} {x:Nd} (h:o0T x) {i k:Nat} {r:Int} (hi:i<8) (a:k=1+i):(ndL l x).set k (.int .i64 r)=ndL l {x with kids:=x.kids.set i r} :=by
 subst a;unfold ndL;rw[List.set_append_right _ _ (by simp),List.length_singleton,Nat.add_sub_cancel_left,List.set_append_left _ _ (by simp[h.n];exact hi),List.map_set];rfl
theorem l2Q {l:Int} {x:Nd} (h:o0T x) {v:B} (b:v.length=32):j0I (ndL l x).toArray 9 (v.map a0Q).toArray=(ndL l {x with sum:=v}).toArray:=by
 unfold j0I;apply Array.ext';have a:=q0F (l:=l) h;simp only[Array.toList_append,Array.toList_extract,List.extract_eq_take_drop,List.drop_zero,Nat.sub_zero,List.size_toArray,List.length_map,b,a];rw[List.drop_eq_nil_of_le (by omega),List.take_nil,List.append_nil];unfold ndL;rw[←List.append_assoc,List.take_left' (by simp[h.n]),←List.append_assoc]
abbrev p1A (W:World) (a:Ad) (l:Nat):Prop:= ∀(s:St) (root:Int) (at_:Nat) (to_:Int),s.bits≤256→at_<1000000→(i0W l root at_ to_ s).1≠ .big→
 a0G prog 197 #[ptr a.maps,.int .i64 root,.int .i64 l,.int .i64 at_,.int .i64 to_] (RS W a s) (Ran fT (RS W a) a0H (i0W l root at_ to_ s))
set_option maxRecDepth 8000 in
theorem r1D (W:World) (hW:i0L W) (a:Ad) (l:Nat) (hl:l<3) (O: ∀m,l=m+1→p1A W a m):p1A W a l:=by
 intro s root at_ to_ U T g;have e0:i0W l root at_ to_ s=_:=congrFun (v2R l root at_ to_) s;have D:(b0Q l at_).1<8:=Nat.mod_lt _ (by decide);have hs2:(b0Q l at_).2≤at_:=Nat.mod_le _ _;refine en func197 ntmps197 fun R w0=> ?_;refine go 10 ?_;refine a0U rfl Hb.o rfl (p0F W a s root l) gSp (fun x t c=> ?_) (fun e t c=>by refine pn ?_;exact kx ((by rw[e0];exact a0F c)));refine ns ?_;obtain⟨Y,d⟩:=h0Q c;rw[Y]at c ⊢;rw[a0A c]at e0;have E:(ndL l x).toArray.size=41:=by rw[List.size_toArray,q0F d]
 have c1:(x.kids.map a0H).length=8:=by simp[d.n]
 refine al fun p=> ?_;refine a0M Sz.o rfl rfl E (h1F _ _) (by rw[E];exact Nat.le_refl 41) (a0N (by rw[E];rfl)) ?_;refine go 6 ?_;refine a0D (a0K Ag.o rfl (by show 0+1+8≤(ndL l x).toArray.size;rw[E];omega) (d0Y (a:= [a0H l]) rfl c1)) ?_;refine go 4 ?_;refine a0V (X:= {y:Nat×St // y.1≤8∧y.2.bits=s.bits∧i0W l root at_ to_ s=a0B (d0V (h0E · l) (x.kids.drop y.1)) (fun _=>o1Z l x root at_ to_) y.2}) (fun y=> [(0,ptr a.maps),(1,.int .i64 root),(2,.int .i64 l),(3,.int .i64 at_),(4,.int .i64 to_),(11,ptr p),(21,.agg (x.kids.map a0H).toArray),(22,.int .i64 y.1.1)]) (fun y=>RS W a y.1.2++ [pts p (.cells (ndL l x).toArray 182 (0,0)),R]) (fun y=>8-y.1.1) ⟨(0,s),by omega,rfl,e0⟩ gSu gSp ?_;rintro⟨⟨i,u⟩,hi,hub,he⟩ m0 hm0
 try simp only at hm0
 try dsimp only
 simp only at hi hub he;refine ns ?_;refine go 6 ?_;refine a0O rfl (fun q=> ?_) (fun q=> ?_)
 ·have M:i<8:=by have:=of_decide_eq_true q;omega
  have N:i<x.kids.length:=by rw[d.n];exact M
  rw[List.drop_eq_getElem_cons N]at he;refine go 6 ?_;refine a0D (o0P Tar.o Sc.o rfl rfl (by omega) (i0E a0H x.kids i _ N (by omega))) ?_;refine go 7 ?_;refine a0U rfl Hb.o rfl (m1N W a u x.kids[i] l (by rw[he]at g;exact k1A (f:=(h0E · l)) (c0I g))) gSp (fun b' K c=> ?_) (fun e t c=>by refine pn ?_;exact kx ((by rw[he];exact a0F (d1E (f:=(h0E · l)) c))));refine ns ?_;refine go 6 ?_;exact rd idh (⟨(i+1,K),M,(by have:=j1Y x.kids[i] l u;rw[c]at this;exact this.trans hub),by rw[he];unfold a0B;rw[h1G (f:=(h0E · l)) c]⟩)
 ·obtain rfl:i=8:=by have:=of_decide_eq_false q;omega
  have H:i0W l root at_ to_ s=o1Z l x root at_ to_ u:=by rw[he,List.drop_eq_nil_of_le (by rw[d.n];exact Nat.le_refl _)];rfl
  clear he;refine go 7 ?_;refine a0U rfl Hb.o rfl (f1P W a l (by omega) u root (by omega) (by rw[H]at g;exact c0I g)) gSp (fun b t0 c=> ?_) (fun e t c=>by refine pn ?_;exact kx ((by rw[H];exact a0F c)));refine ns ?_;refine go 3 ?_;have Q:t0.bits=s.bits:=by have:=y0P (l+1) root u;rw[show g0P (l+1) root u=_ from c]at this;exact this.trans hub
  have k:i0W l root at_ to_ s=a0B (l2N l x at_ to_) (fun r=>f1Q l (x.kids.set (b0Q l at_).1 r)) t0:=by rw[H];exact a0A c
  refine cg 3 (q1R l at_ hl T) ?_;refine go 7 ?_;refine j0D (X:= {y:Int×St // y.2.bits=s.bits∧i0W l root at_ to_ s=f1Q l (x.kids.set (b0Q l at_).1 y.1) y.2}) (fun y=> [(0,ptr a.maps),(2,.int .i64 l),(11,ptr p)]) (fun y=>RS W a y.1.2++ [pts p (.cells (ndL l {x with kids:=x.kids.set (b0Q l at_).1 y.1.1}).toArray 182 (0,0)),R]) ?_ ?_
  ·refine go 6 ?_;refine a0O rfl (fun w=> ?_) (fun w=> ?_)
   ·obtain rfl:l=0:=by have h:=w;simp only[beq_iff_eq]at h;omega
    refine go 1 ?_;refine tl 8 ?_;refine go 7 ?_;refine b0V (b0N Sc.o rfl (l2O d D (by omega))) ?_;refine go 1 ?_;refine a0U rfl Hb.o rfl (d1A W a t0 (x.kids.getD (b0Q 0 at_).1 0) (by omega) (by rw[k]at g;exact c0I (c0I g))) gSp (fun b' K c=> ?_) (fun e t c=>by refine pn ?_;exact kx ((by rw[k];exact a0F (show a0B (g0O (x.kids.getD (b0Q 0 at_).1 0)) (fun _=>ret to_) t0=_ from a0F c))));refine ns ?_;refine go 7 ?_;refine d0T Sz.o rfl rfl rfl (by rw[q0F d,Nat.blt_eq];omega) (l2P d D (by omega)) ?_;refine go 1 ?_;exact me idh (⟨(to_,K),(by have:=d1D (x.kids.getD (b0Q 0 at_).1 0) t0;rw[c]at this;exact this.trans Q),by rw[k];exact a0A (show a0B (g0O (x.kids.getD (b0Q 0 at_).1 0)) (fun _=>ret to_) t0=(.ok to_,K) by rw[a0A c];rfl)⟩)
   ·obtain⟨m,S⟩: ∃m,l=m+1:=⟨l-1,by have h:=w;simp only[beq_eq_false_iff_ne]at h;omega⟩;refine go 6 ?_;refine a0D (b0N Sc.o rfl (l2O d D (by omega))) ?_;refine go 2 ?_;rw[show(l:Int)-1=(m:Int) by omega];refine go 2 ?_;refine a0U rfl Hb.o rfl (O m S t0 (x.kids.getD (b0Q l at_).1 0) (b0Q l at_).2 to_ (by omega) (by omega) (by subst S;rw[k]at g;exact c0I g)) gSp (fun r K c=> ?_) (fun e t c=>by refine pn ?_;exact kx ((by subst S;rw[k];exact a0F c)));refine ns ?_;refine go 2 ?_;refine d0T Sz.o rfl rfl rfl (by rw[q0F d,Nat.blt_eq];omega) (l2P d D (by omega)) ?_;refine go 1 ?_;exact me idh (⟨(r,K),(by have:=o1V m (x.kids.getD (b0Q l at_).1 0) (b0Q l at_).2 to_ t0;rw[c]at this;exact this.trans Q),by subst S;rw[k];exact a0A c⟩)
  rintro⟨⟨r,v⟩,hvb,he3⟩;dsimp only at hvb he3 ⊢;refine ns ?_;generalize hk:x.kids.set (b0Q l at_).1 r=kids at he3 ⊢;have I:kids.length=8:=by rw[←hk,List.length_set,d.n]
  have C:o0T {x with kids:=kids} :=⟨I,d.sum⟩;have j:(ndL l {x with kids:=kids}).toArray.size=41:=by rw[List.size_toArray,q0F C]
  refine go 3 ?_;refine a0D (a0K Ag.o rfl (by rw[j];omega) (a0I j)) ?_;refine cg 0 (f2T l {x with kids:=kids} C) ?_;refine go 2 ?_;refine a0O rfl (fun A=> ?_) (fun A=> ?_)
  ·refine go 5 ?_;exact rR idh (by rw[he3];unfold f1Q;rw[if_pos (of_decide_eq_true A)];rfl)
  ·have B:i0W l root at_ to_ s=a0B (h0F l kids) (fun ss=>e0S (j0L l {kids:=kids,sum:=e0H l ss})) v:=by rw[he3];unfold f1Q;rw[if_neg (of_decide_eq_false A)]
   refine go 6 ?_;refine a0D (a0K Ag.o rfl (by rw[j];omega) (a0I j)) ?_;refine a0U rfl Hb.o rfl (g2K W a v l (by omega) {x with kids:=kids} C) gSp (fun ss K c=> ?_) (fun e t c=>by refine pn ?_;exact kx ((by rw[B];exact a0F c)));refine ns ?_;obtain⟨Z,V,P⟩:=m1P l c;rw[Z]at c ⊢;rw[a0A c]at B;have G:=t0M l ss;have L:((e0H l ss).map a0Q).toArray.size=32:=by rw[List.size_toArray,List.length_map,G]
   have J:o0T {kids:=kids,sum:=e0H l ss} :=⟨I,G⟩;have F:(ndL l {kids:=kids,sum:=e0H l ss}).toArray.size=41:=by rw[List.size_toArray,q0F J]
   refine cg 0 (z1L W hW l (by omega) ss (by rw[V];exact I) P) ?_;refine go 1 ?_;refine a0M Sz.o rfl rfl L (fun x hx=>by simp at hx;obtain⟨_,_,rfl⟩:=hx;rfl) (by rw[L,j];omega) (l2Q C G) ?_;refine go 3 ?_;refine mx (.r 0 5 (.hard 5 (.hard 6 (.soft 7 .done)))) [mpC a,pts p (.cells (ndL l {kids:=kids,sum:=e0H l ss}).toArray 182 (0,0))] ?_;refine go 4 ?_;refine d0A rfl (a0K Ag.o rfl (by rw[F];omega) (a0I F)) ?_;refine cg 1 (w1B l {kids:=kids,sum:=e0H l ss} J) ?_;refine go 3 ?_;refine a0U rfl Hb.o rfl (q1J W a v (j0L l {kids:=kids,sum:=e0H l ss}) (by rw[v2S J];omega) (by rw[B]at g;exact g)) gSp (fun z z' c=> ?_) (fun e t c=>by refine pn ?_;exact kx ((by rw[B];exact c)));refine ns ?_;refine go 5 ?_;exact rR idh (B.trans c)
theorem w1Q (W:World) (b:i0L W) (a:Ad): ∀l,l<3→p1A W a l
 |0,h=>r1D W b a 0 h (fun m e=>by omega)
 |l+1,h=>r1D W b a (l+1) h (fun m e=>by have c:m=l:=(Nat.succ.inj e).symm;rw[c];exact w1Q W b a l (by omega))
def g2L (n:Nat) (root:Int) (at_:Nat):M Int:=match n with
 |0=>ret root
 |l+1=>l0E l root at_
theorem c2Q (l:Nat) (root:Int) (at_:Nat):g2L (l+1) root at_=a0B (Go.Sb.load root l) fun n=>g2L l (n.kids.getD (b0Q l at_).1 0) (b0Q l at_).2:=by cases l<;>rfl
theorem c2R: ∀(n:Nat) {root:Int} {at_:Nat} {s t:St} {x:Int},g2L n root at_ s=(.ok x,t)→t=s
 |0,root,at_,s,t,x,h=>by cases h;rfl
 |l+1,root,at_,s,t,x,h=>by
  rw[c2Q]at h;cases a:Go.Sb.load root l s with
  |mk o u=>
   cases o with
   |ok v=>rw[a0A a]at h;exact(c2R l h).trans (h0Q a).1
   |err e=>rw[a0F a]at h;cases h
   |big=>unfold a0B at h;rw[a]at h;cases h
theorem d1J {l:Int} {x:Nd} (h:o0T x):(ndL l x).toArray.extract 1 (1+8)=(x.kids.map a0H).toArray:=d0Y (a:= [a0H l]) rfl (by simp[h.n])
set_option maxRecDepth 4000 in
theorem r1E (W:World) (a:Ad) (s:St) (root:Int) (at_:Nat) (g:at_<1000000):a0G prog 115 #[ptr a.maps,.int .i64 root,.int .i64 at_] (RS W a s) (Ran fT (RS W a) a0H (l0E 2 root at_ s)):=by
 refine en func115 ntmps115 fun R w0=> ?_;refine go 12 ?_;refine a0V (X:= {y:Nat×Int×Nat // y.1≤3∧y.2.2<1000000∧l0E 2 root at_ s=g2L y.1 y.2.1 y.2.2 s}) (fun y=> [(0,ptr a.maps),(1,.int .i64 y.1.2.1),(2,.int .i64 y.1.2.2),(7,.int .i64 ((y.1.1:Int)-1))]) (fun y=>RS W a s++ [R]) (fun y=>y.1.1) ⟨(3,root,at_),by omega,g,rfl⟩ gSu gSp ?_;rintro⟨⟨n,r,k⟩,hi,hk,he⟩ m0 hm0
 try simp only at hm0
 try dsimp only
 simp only at hi hk he;refine ns ?_;refine go 7 ?_;refine a0O rfl (fun b=> ?_) (fun b=> ?_)
 ·obtain⟨l,rfl⟩: ∃l,n=l+1:=⟨n-1,by have:=of_decide_eq_true b;omega⟩;rw[c2Q]at he;rw[show((l+1:Nat):Int)-1=(l:Int) by omega];have h:(b0Q l k).1<8:=Nat.mod_lt _ (by decide);have j:(b0Q l k).2≤k:=Nat.mod_le _ _;refine cg 8 (q1R l k (by omega) hk) ?_;refine go 11 ?_;refine a0U rfl Hb.o rfl (p0F W a s r l) gSp (fun x t f=> ?_) (fun e t f=>by refine pn ?_;exact kx ((by rw[he];exact a0F f)));refine ns ?_;obtain⟨i,d⟩:=h0Q f;rw[i]at f ⊢;rw[a0A f]at he;have c:(b0Q l k).1<x.kids.length:=by rw[d.n];exact h
  refine a0D (n0S (v:=(x.kids.map a0H).toArray) F.fa182_1 rfl (d1J d)) ?_;refine go 1 ?_;refine a0D (o0P Tar.o Sc.o rfl rfl (by omega) (i0E a0H x.kids (b0Q l k).1 _ c (by omega))) ?_;rw[←c1X c];refine go 10 ?_;exact rd idh (⟨(l,x.kids.getD (b0Q l k).1 0,(b0Q l k).2),by(show l≤3);omega,by(show(b0Q l k).2<1000000);omega,he⟩)
 ·obtain rfl:n=0:=by have:=of_decide_eq_false b;omega
  refine go 8 ?_;exact rR idh he
theorem f1R (W:World) (l:i0L W) (a:Ad) (s:St) (root:Int) (at_:Nat) (to_:Int) (f:s.bits≤256) (i:at_<1000000) (g:(m0G root at_ to_ s).1≠ .big):a0G prog 163 #[ptr a.maps,.int .i64 root,.int .i64 at_,.int .i64 to_] (RS W a s) (Ran fT (RS W a) a0H (m0G root at_ to_ s)):=by
 have e0:m0G root at_ to_ s=a0B (l0E 2 root at_) (fun x=>if x=to_ then a0B (g0O to_) fun _=>ret root else i0W 2 root at_ to_) s:=rfl;refine en func163 ntmps163 fun R w0=> ?_;refine go 11 ?_;refine a0U rfl Hb.o rfl (r1E W a s root at_ i) gSp (fun x t c=> ?_) (fun e t c=>by refine pn ?_;exact kx ((by rw[e0];exact a0F c)));refine ns ?_;have j:=c2R 3 c;rw[j]at c ⊢;rw[a0A c]at e0;refine go 4 ?_;refine a0O rfl (fun d=> ?_) (fun d=> ?_)
 ·have k:x=to_:=by have h:=d;simp only[beq_iff_eq]at h;exact h
  rw[if_pos k]at e0;refine go 7 ?_;refine a0U rfl Hb.o rfl (d1A W a s to_ f (by rw[e0]at g;exact c0I g)) gSp (fun b t c=> ?_) (fun e t c=>by refine pn ?_;exact kx ((by rw[e0];exact a0F c)));refine ns ?_;refine go 8 ?_;exact rR idh (e0.trans (a0A c))
 ·have k: ¬x=to_:=by have h:=d;simp only[beq_eq_false_iff_ne]at h;exact h
  rw[if_neg k]at e0;refine go 8 ?_;refine a0U rfl Hb.o rfl (w1Q W l a 2 (by omega) s root at_ to_ f i (by rw[e0]at g;exact g)) gSp (fun r t c=> ?_) (fun e t c=>by refine pn ?_;exact kx ((by rw[e0];exact c)));refine ns ?_;refine go 3 ?_;exact rR idh (e0.trans c)
theorem l2R (at_:Int):PB (k0B at_):=by
 unfold k0B;refine i0F (c0V _) (b0L (s0Y _) fun b=>i0F (b0L (fun s=> ?_) fun x=>b0L (u0T (fun i=> ?_) _) fun _ s=> ?_) (c0V _))
 ·exact d1C at_ s
 ·unfold h0P;exact i0F (b0L (s0Y _) fun b=>i0F (c0V _) (fun _=>rfl)) (c0V _)
 ·split<;>rfl
theorem z0K: ∀(l:Nat) (a:Int),PB (f0B l a)
 |0,a=>l2R a
 |l+1,a=>by
  unfold f0B;exact i0F (c0V _) (b0L (s0Y _) fun b=>i0F (b0L (u0U _ _) fun n=>u0T (z0K l) _) (c0V _))
abbrev f1S (W:World) (a:Ad) (l:Nat):Prop:= ∀(s:St) (at_:Int),s.bits≤256→(f0B (l+1) at_ s).1≠ .big→a0G prog 133 #[ptr a.maps,.int .i64 at_,.int .i64 l] (RS W a s) (Ran fT (RS W a) i0S (f0B (l+1) at_ s))
set_option maxRecDepth 4000 in
theorem a1E (W:World) (a:Ad) (l:Nat) (K:l<100) (J: ∀m,l=m+1→f1S W a m):f1S W a l:=by
 intro s at_ B j;by_cases h:at_=0
 ·subst h;rw[show f0B (l+1) 0 s=(.ok (),s) by unfold f0B;rw[if_pos rfl];rfl];refine en func133 ntmps133 fun R w0=> ?_;refine go 17 ?_;exact rR idh rfl
 ·have e0:f0B (l+1) at_ s=a0B (e0Z at_) (fun b=>if b then a0B (Go.Sb.load at_ l) (fun n=>d0V (f0B l) n.kids)else ret ()) s:=by
   conv=>lhs;unfold f0B
   rw[if_neg h]
  have k:(e0Z at_ s).1≠ .big:=by rw[e0]at j;exact c0I j
  refine en func133 ntmps133 fun R w0=> ?_;refine go 6 ?_;refine b0Z (d0H rfl) (wg rfl rfl rfl (wFF (by simpa using h))) ?_;refine b0Z (s1A rfl) (wg rfl rfl rfl (wFF (by simpa using h))) ?_;refine b0Z (k1N Fl.o rfl) (wg rfl rfl rfl (wFF (by simpa using h))) ?_;refine b0Z (b0N Sc.o rfl (by rfl)) (wg rfl rfl rfl (wFF (by simpa using h))) ?_;refine b0Z (d0H rfl) (wg rfl rfl rfl (wFF (by simpa using h))) ?_;refine o0V (wg rfl rfl rfl (wFF (by simpa using h))) ?_;refine a0U rfl Hb.o rfl (a1D W a s at_ k) gSp (fun b t c=> ?_) (fun e t c=>by refine pn ?_;exact kx ((by rw[e0];exact a0F c)));refine ns ?_;have E:t.bits=s.bits:=by have:=s0Y at_ s;rw[c]at this;exact this
  rw[a0A c]at e0;clear c k;refine b0Z (v0A rfl) (wg rfl rfl rfl (wFF (by simpa using h))) ?_;refine a0D (h0H rfl (by simpa using h) rfl) ?_;refine go 2 ?_;refine a0O rfl (fun d=> ?_) (fun d=> ?_)
  ·have A:b=false:=by simpa [d1F] using d
   exact rR idh (by rw[e0,A];rfl)
  ·have C:b=true:=by simpa [d1F] using d
   rw[C,if_pos rfl]at e0;refine go 7 ?_;refine a0U rfl Hb.o rfl (p0F W a t at_ l) gSp (fun x L c=> ?_) (fun e t c=>by refine pn ?_;exact kx ((by rw[e0];exact a0F c)));refine ns ?_;obtain⟨G,r⟩:=h0Q c;rw[G]at c ⊢;have D:f0B (l+1) at_ s=d0V (f0B l) (x.kids.drop 0) t:=e0.trans (a0A (m:=Go.Sb.load at_ l) (f:=fun n=>d0V (f0B l) n.kids) c);refine a0D (n0S (v:=(x.kids.map a0H).toArray) F.fa182_1 rfl (d1J r)) ?_;refine go 4 ?_;refine a0V (X:= {y:Nat×St // y.1≤8∧y.2.bits=s.bits∧f0B (l+1) at_ s=d0V (f0B l) (x.kids.drop y.1) y.2}) (fun y=> [(0,ptr a.maps),(2,.int .i64 l),(23,.agg (x.kids.map a0H).toArray),(24,.int .i64 y.1.1)]) (fun y=>RS W a y.1.2++ [R]) (fun y=>8-y.1.1) ⟨(0,t),by omega,E,D⟩ gSu gSp ?_;rintro⟨⟨i,u⟩,hi,hub,he⟩ m0 hm0
   try simp only at hm0
   try dsimp only
   simp only at hi hub he;refine ns ?_;refine go 6 ?_;refine a0O rfl (fun g=> ?_) (fun g=> ?_)
   ·have p:i<8:=by have:=of_decide_eq_true g;omega
    have w:i<x.kids.length:=by rw[r.n];exact p
    rw[List.drop_eq_getElem_cons w]at he;have z:(f0B l x.kids[i] u).1≠ .big:=by rw[he]at j;exact k1A j
    refine go 6 ?_;refine a0D (o0P Tar.o Sc.o rfl rfl (by omega) (i0E a0H x.kids i _ w (by omega))) ?_;refine go 4 ?_;by_cases q:l=0
    ·refine go 5 ?_;refine d0P rfl (by subst q;rfl) ?_;subst q;refine go 6 ?_;refine a0U rfl Hb.o rfl (z1Q W a u x.kids[i] (by omega) z) gSp (fun I H c=> ?_) (fun e t c=>by refine pn ?_;exact kx ((by rw[he];exact d1E c)));refine ns ?_;refine go 6 ?_;exact rd idh (⟨(i+1,H),p,(by have:=z0K 0 x.kids[i] u;rw[show f0B 0 x.kids[i] u=_ from c]at this;exact this.trans hub),he.trans (h1G c)⟩)
    ·refine go 5 ?_;refine b0S rfl (by simpa using q) ?_;obtain⟨m,rfl⟩: ∃m,l=m+1:=⟨l-1,by omega⟩;refine go 5 ?_;rw[show((m+1:Nat):Int)-1=(m:Int) by omega];refine a0U rfl Hb.o rfl (J m rfl u x.kids[i] (by omega) z) gSp (fun I H c=> ?_) (fun e t c=>by refine pn ?_;exact kx ((by rw[he];exact d1E c)));refine ns ?_;refine go 6 ?_;exact rd idh (⟨(i+1,H),p,(by have:=z0K (m+1) x.kids[i] u;rw[c]at this;exact this.trans hub),he.trans (h1G c)⟩)
   ·obtain rfl:i=8:=by have:=of_decide_eq_false g;omega
    rw[List.drop_eq_nil_of_le (by rw[r.n];exact Nat.le_refl _)]at he;refine go 1 ?_;exact fR he
theorem z1R (W:World) (a:Ad):f1S W a 2:=by
 have b:f1S W a 0:=a1E W a 0 (by decide) fun m h=>by omega
 have c:f1S W a 1:=a1E W a 1 (by decide) fun m h=>(by obtain rfl:m=0:=(by omega);exact b);exact a1E W a 2 (by decide) fun m h=>(by obtain rfl:m=1:=(by omega);exact c)
theorem z1S (W:World) (a:Ad) (s:St) (at_:Int) (b:s.bits≤256) (c:(v0Q at_ s).1≠ .big):a0G prog 89 #[ptr a.maps,.int .i64 at_] (RS W a s) (Ran fT (RS W a) i0S (v0Q at_ s)):=by
 refine en func89 ntmps89 fun R w0=> ?_;refine go 3 ?_;refine a0U rfl Hb.o rfl (z1R W a s at_ b c) gSp (fun u t d=> ?_) (fun e t d=>by refine pn ?_;exact kx (d));refine ns ?_;refine go 1 ?_;exact fR d
section
def RO {α:Type} (m:M α):Prop:= ∀s,(m s).2=s
theorem q0G {α β:Type} {m:M α} {f:α→M β} (h:RO m) (c: ∀a,RO (f a)):RO (a0B m f):=fun s=>by
 unfold a0B;have b:=h s;cases e:m s with
 |mk o t=>
  rw[e]at b;cases o with
  |ok a=>exact(c a t).trans b
  |err e=>exact b
  |big=>exact b
theorem u0A {α:Type} (a:α):RO (ret a:M α):=fun _=>rfl
theorem h1H {α:Type} {p:Prop} [Decidable p] {m n:M α} (h:RO m) (a:RO n):RO (if p then m else n):=by split<;>assumption
theorem h1I (at_:Int):RO (g0X at_):=fun s=>by unfold g0X;split<;>rfl
theorem c2S (a:Int) (l:Nat):RO (Go.Sb.load a l):=h1H (u0A _) (q0G (h1I a) fun _=>fun _=>rfl)
theorem b1B: ∀l root at_,RO (l0E l root at_)
 |0,root,at_=>by unfold l0E;exact q0G (c2S _ _) fun _=>u0A _
 |l+1,root,at_=>by unfold l0E;exact q0G (c2S _ _) fun _=>b1B l _ _
theorem f1T (x:Hd): ∀n,RO (g0A x n)
 |0=>u0A _
 |n+1=>by
  unfold g0A;exact q0G (h1H (q0G (h1I _) fun _=>h1H (fun _=>rfl) (u0A _)) (u0A _)) fun _=>q0G (f1T x n) fun _=>u0A _
theorem c2T (a:Int):RO (l0D a):=h1H (u0A _) (q0G (q0G (h1I a) fun _=>fun _=>rfl) fun x=>f1T x 4)
theorem p1B (x:Ent) (i:Nat):RO (p0K x i):=q0G (b1B _ _ _) c2T
theorem w1R {W:World} {a:Ad} {α:Type} {val:α→Value} {s:St} {o:Out α×St} {e:Ending} {L:List a0E} (h:o.2=s):Ran fT (fun _:St=>RS W a s) val o e L↔Ran fT (RS W a) val o e L:=by
 obtain⟨o,t⟩:=o;have h:t=s:=h;subst h;cases o<;>exact Iff.rfl
section
variable {c:Cx} {d:Option Tmp} {ty:TypeId} {pos:String} {af:Array Edge} {g:Option (Nat×Bool)} {env:List (Nat×Value)} {L M:List a0E} {a:Ad} {s:St}
theorem c2U {w:World} (h:Sat w (HL a s::M)): ∃M',Sat w (s0F a s.next s.epoch::M'):=by
 obtain⟨x,c⟩:=g0K.1 h;have b:=b0M.1 c;simp only[hlV,d0B,List.cons_append,List.nil_append]at b;exact⟨_,(show Fnd _ (s0F a s.next s.epoch) _ from gFd).sat b⟩
theorem j0R {x:Operand} {t:TypeId} {k:Nat} {v:Value} (i:f0Q c.P t=true) (j:evo env x=some (.pointer (some ⟨a.core,k,none⟩))) (hL:Fnd L (HL a s) M) (b:nth (o0F a s.next s.epoch) k=some v):
 Sl.a0P c ⟨d,.load t x,ty,pos,af,g⟩ env L v:=
 w0Z i j hL fun w L' h=>by
  obtain⟨l,e⟩:=c2U h;have f:=e.pts;rw[e0F]at b;simp[World.cell?,f,b]
def HLX (a:Ad):a0E:=ex fun s:St=>HL a s
theorem r0T {x:Operand} {t:TypeId} {k:Nat} {v:Value} (j:f0Q c.P t=true) (l:evo env x=some (.pointer (some ⟨a.core,k,none⟩))) (hL:Fnd L (HLX a) M) (b: ∀n e,nth (o0F a n e) k=some v):
 Sl.a0P c ⟨d,.load t x,ty,pos,af,g⟩ env L v:=
 w0Z j l hL fun w L' f=>by
  obtain⟨s,f⟩:=g0K.1 f;obtain⟨m,h⟩:=c2U f;have i:=h.pts;have b:=b s.next s.epoch;rw[e0F]at b;simp[World.cell?,i,b]
theorem g0T {K R:List a0E} (c:b0A L (HL a s::K) R) (w:World) (h:Sat w L):Sat w (HLX a::K):=by
 have b:=(h.perm c).perm List.perm_append_comm;exact g0K.2 ⟨s,b.drop⟩
end
abbrev s0M (b:Nat) (x:Ent):a0E:=pts b (.cells (f0U x).toArray 50 (0,0))
theorem f1U (W:World) (a:Ad) (s:St) (id:Int):a0G prog 15 #[ptr a.core,.int .u32 id] [HL a s] (a0T (.tuple #[e0E ((a0C id s.vols).getD g0L),.int .i64 (if(a0C id s.vols).isSome then 0 else 5)]) [HL a s]):=by
 cases d:a0C id s.vols with
 |none=>
  refine en func15 ntmps15 fun R w0=> ?_;refine e0C gFd fun by_ gv gc o c b=> ?_;simp only[d0B,o0F,List.cons_append,List.nil_append];refine go 2 ?_;refine al fun e=> ?_;refine go 10 ?_;refine a0D (o0W (ek:=e0J) (ev:=e0E) (k:=id) c0Y.o z0Z (tt fun _=>trivial) trivial Zr.o rfl rfl gFd e1Y) ?_;refine go 1 ?_;rw[d];refine go 2 ?_;refine al fun f=> ?_;refine go 19 ?_;refine b0U (c0W c b gSp) (q0L idh (RV.agg Ag.o rfl (by simp[Value.cells,f0U]) (a0I (by simp[Value.cells,f0U])) (RV.tmp rfl RV.nil)) rfl gSp)
 |some x=>
  refine en func15 ntmps15 fun R w0=> ?_;refine e0C gFd fun by_ gv gc o c b=> ?_;simp only[d0B,o0F,List.cons_append,List.nil_append];refine go 2 ?_;refine al fun e=> ?_;refine go 10 ?_;refine a0D (o0W (ek:=e0J) (ev:=e0E) (k:=id) c0Y.o z0Z (tt fun _=>trivial) trivial Zr.o rfl rfl gFd e1Y) ?_;refine go 1 ?_;rw[d];refine go 2 ?_;refine al fun f=> ?_;refine go 21 ?_;refine b0U (c0W c b gSp) (q0L idh (RV.agg Ag.o rfl (by simp[Value.cells,f0U]) (a0I (by simp[Value.cells,f0U])) (RV.tmp rfl RV.nil)) rfl gSp)
end
theorem z1T (W:World) (a:Ad) (s:St) (v:Value) (l:List Ent) (n:Nat) (X:List Value) (H:n=l.length) (F:X=l.flatMap f0U) (j:s.bits≤256) (K:l.length≤1000) (g:(s0C l s).1≠ .big):
 a0G prog 36 #[ptr a.core,v] (RS W a s++ [b0I 50 6 v n X]) (Ran fT (fun t=>RS W a t++ [b0I 50 6 v n X]) i0S (s0C l s)):=by
 subst H F;refine ns ?_;refine en func36 ntmps36 fun R w0=> ?_;refine n0W (e:=50) (v:=v) gFd fun z cap I A _=> ?_;subst I;refine go 8 ?_;refine a0V (X:= {y:Nat×St // y.1≤l.length∧y.2.bits=s.bits∧s0C l s=s0C (l.drop y.1) y.2}) (fun y=> [(0,ptr a.core),(6,.slice z l.length cap),(7,.int .i64 l.length),(8,.int .i64 y.1.1)]) (fun y=>RS W a y.1.2++ [b0I 50 6 (.slice z l.length cap) l.length (l.flatMap f0U),R]) (fun y=>l.length-y.1.1) ⟨(0,s),Nat.zero_le _,rfl,rfl⟩ gSu gSp ?_;rintro⟨⟨i,u⟩,hi,hub,he⟩ m0 hm0
 try simp only at hm0
 try dsimp only
 simp only at hi hub he;refine ns ?_;refine go 6 ?_;refine a0O rfl (fun b=> ?_) (fun b=> ?_)
 ·have c:i<l.length:=by have:=of_decide_eq_true b;omega
  refine i0T (e:=50) (v:= .slice z l.length cap) gFd (by omega) fun be D r B=> ?_;cases r
  rw[List.drop_eq_getElem_cons c]at he;obtain⟨x,C⟩: ∃x,x=l[i]:=⟨_,rfl⟩;rw[←C]at he;have d:((l.flatMap f0U).drop (i*6)).take 6=f0U x:=by rw[p0J (f:=f0U) (size:=6) (fun _=>rfl) l c,C]
  have E:s0C (x::l.drop (i+1)) u=a0B (v0Q x.root) (fun _ t=>s0C (l.drop (i+1)) {t with vols:=b0O x.id x t.vols}) u:=by
   show a0B (a0B (v0Q x.root) _) _ u=_;unfold a0B;cases v0Q x.root u with|mk o t=>cases o<;>rfl
  rw[E]at he;have m:(v0Q x.root u).1≠ .big:=by rw[he]at g;exact c0I g
  refine go 7 ?_;refine a0D (x0T (e:=50) (size:=6) (xs:=l.flatMap f0U) Ag.o rfl gFd (vs:=f0U x) (by rw[Nat.zero_add];exact d) rfl (by decide)) ?_;refine al fun J=> ?_;refine go 4 ?_;refine tl 6 ?_;refine go 3 ?_;refine b0V (j0R Sc.o rfl gFd rfl) ?_;refine go 3 ?_;refine a0U rfl Hb.o rfl (z1S W a u x.root (by omega) m) gSp (fun w t h=> ?_) (fun e t h=>by refine pn ?_;exact kx ((by rw[he];exact a0F h)));refine ns ?_;refine go 1 ?_;have q:t.bits=s.bits:=by have:=z0K 3 x.root u;rw[show f0B 3 x.root u=_ from h]at this;exact this.trans hub
  rw[a0A h]at he;refine go 1 ?_;refine e0C gFd fun by_ gv gc o G p=> ?_;simp only[d0B,o0F,c0R,List.cons_append,List.nil_append];refine tl 7 ?_;refine go 8 ?_;refine i0O (ek:=e0J) (ev:=e0E) (k:=x.id) (v:=x) c0Y.o z0Z (tt fun _=>trivial) trivial rfl rfl rfl (show Fnd _ (b0K a.vols e0J e0E t.vols) _ from gFd) ?_;refine go 1 ?_;refine b0F (c0W (s:= {t with vols:=b0O x.id x t.vols}) G p gSp) ?_;refine go 5 ?_;exact rd idh (⟨(i+1,{t with vols:=b0O x.id x t.vols}),c,q,he⟩)
 ·obtain rfl:i=l.length:=by have:=of_decide_eq_false b;omega
  rw[List.drop_length]at he;refine go 1 ?_;exact fR he
end Go.Proofs.Q
namespace Go.Proofs.Q
open Go Go.Sl Tryz
theorem F.fa230_0:Sl.n0R prog 230 0 0 4 true=true:=by kernel_rfl
instance:Hb prog 110:=⟨kr⟩
instance:Hb prog 111:=⟨kr⟩
instance:Hb prog 112:=⟨kr⟩
instance:Hb prog 154:=⟨kr⟩
end Go.Proofs.Q

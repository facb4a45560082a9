/- Part of the proof; no statement of its own. -/
import Derived.Test.YtpinhnikemamjaaGreatDoorB16
import Derived.Test.YtpinhnikemamjaaGreatDoorB08
import Derived.Test.YtpinhnikemamjaaGreatDoorB17
import Derived.Test.YtpinhnikemamjaaGreatDoorB19
import Derived.Test.YtpinhnikemamjaaGreatDoorB02
import Derived.Test.YtpinhnikemamjaaGreatDoorB09
set_option linter.all false
set_option maxRecDepth 4000
set_option maxHeartbeats 4000000
namespace Go.Proofs.Q
open Go.Sl Go.Sb
section
def c1N (l:Nat) (kids:List Int):M Int:=if kids=f0B then ret 0 else a0B (g0P l kids) fun ss=>e0S (i0R l {kids:=kids,sum:=f0X l ss})
def f2M (l:Nat) (n:Nd) (at_:Nat) (to_:Int):M Int:=match l with
 |0=>a0B (g0A (n.kids.getD (b0X 0 at_).1 0)) fun _=>ret to_
 |m+1=>h0V m (n.kids.getD (b0X (m+1) at_).1 0) (b0X (m+1) at_).2 to_
def l1C (l:Nat) (n:Nd) (root:Int) (at_:Nat) (to_:Int):M Int:=a0B (t0Q root l) fun _=>a0B (f2M l n at_ to_) fun r=>c1N l (n.kids.set (b0X l at_).1 r)
theorem p2O (l:Nat) (root:Int) (at_:Nat) (to_:Int):h0V l root at_ to_=a0B (Go.Sb.load root l) fun n=>a0B (h0T (g0O · l) n.kids) fun _=>l1C l n root at_ to_:=by cases l<;>rfl
theorem i1W (l:Nat): ∀ {r:List Int} {s t:St} {ss:List B},g0P l r s=(.ok ss,t)→t=s∧ss.length=r.length∧ ∀x∈ss,x.length=32
 | [],s,t,ss,h=>by cases h;exact⟨rfl,rfl,by simp⟩
 |k::r,s,t,ss,h=>by
  rw[a1G]at h
  cases hg:a1F l k s with
  |mk o u=>
   cases o with
   |ok v=>
    rw[a0A hg]at h
    cases hg2:g0P l r u with
    |mk o2 u2=>
     cases o2 with
     |ok vs=>
      rw[a0A hg2]at h
      cases h
      obtain⟨h1,h2,h3⟩:=i1W l hg2
      refine⟨h1.trans (n1F hg).1,by simp[h2],fun x hx=> ?_⟩
      rcases List.mem_cons.1 hx with hx|hx
      ·rw[hx];exact(n1F hg).2
      ·exact h3 x hx
     |err e=>rw[a0Q hg2]at h;cases h
     |big=>unfold a0B at h;rw[hg2]at h;cases h
   |err e=>rw[a0Q hg]at h;cases h
   |big=>unfold a0B at h;rw[hg]at h;cases h
theorem p2P {l:Nat} {x:Nd} (h:o0K x):(i0R l x).length=64:=by
 unfold i0R
 refine c1K ?_
 rw[List.length_append,List.length_append,List.length_append,h0K (k:=2) (fun a=>j0M a 2),j0M,h.n,h.sum]
 decide
theorem f2N {l:Int} {x:Nd} (h:o0K x) {i k:Nat} (hi:i<8) (hk:k=1+i):nth (ndL l x) k=some (a0V (x.kids.getD i 0)):=by
 subst hk
 have hil:i<x.kids.length:=by rw[h.n];exact hi
 rw[z0Z hil]
 unfold ndL
 rw[e0L,List.getElem?_append_right (by simp),List.length_singleton,Nat.add_sub_cancel_left,List.getElem?_append_left (by simpa using hil),List.getElem?_map,List.getElem?_eq_getElem hil];rfl
theorem f2O {l:Int} {x:Nd} (h:o0K x) {i k:Nat} {r:Int} (hi:i<8) (hk:k=1+i):(ndL l x).set k (.int .i64 r)=ndL l {x with kids:=x.kids.set i r} :=by
 subst hk
 unfold ndL
 rw[List.set_append_right _ _ (by simp),List.length_singleton,Nat.add_sub_cancel_left,List.set_append_left _ _ (by simp[h.n];exact hi),List.map_set];rfl
theorem f2P {l:Int} {x:Nd} (h:o0K x) {v:B} (hv:v.length=32):i0N (ndL l x).toArray 9 (v.map a0Z).toArray=(ndL l {x with sum:=v}).toArray:=by
 unfold i0N
 apply Array.ext'
 have hl:=p0F (l:=l) h
 simp only[Array.toList_append,Array.toList_extract,List.extract_eq_take_drop,List.drop_zero,Nat.sub_zero,List.size_toArray,List.length_map,hv,hl]
 rw[List.drop_eq_nil_of_le (by omega),List.take_nil,List.append_nil]
 unfold ndL
 rw[←List.append_assoc,List.take_left' (by simp[h.n]),←List.append_assoc]
abbrev l1D (W:World) (a:Ad) (l:Nat):Prop:= ∀(s:St) (root:Int) (at_:Nat) (to_:Int),s.bits≤256→at_<1000000→(h0V l root at_ to_ s).1≠ .big→
 a0S Tryz.prog 197 #[ptr a.maps,.int .i64 root,.int .i64 l,.int .i64 at_,.int .i64 to_] (RS W a s) (Ran fT (RS W a) a0V (h0V l root at_ to_ s))
set_option maxRecDepth 8000 in
attribute [local irreducible] Sl.a0L Sl.OW Sl.CW Sl.OS Sl.OM Sl.OMf Sl.KM
theorem n1G (W:World) (hW:h0L W) (a:Ad) (l:Nat) (hl:l<3) (hrec: ∀m,l=m+1→l1D W a m):l1D W a l:=by
 intro s root at_ to_ hbits hat hnb
 have e0:h0V l root at_ to_ s=_:=congrFun (p2O l root at_ to_) s
 have hs1:(b0X l at_).1<8:=Nat.mod_lt _ (by decide)
 have hs2:(b0X l at_).2≤at_:=Nat.mod_le _ _
 refine a0C Tryz.func197 rfl Tryz.ntmps197 rfl (fun R w0=> ?_)
 simp only[a0N,List.cons_append,List.nil_append]
 refine go 10 ?_
 refine b0F rfl Hb.o rfl (r0S W a s root l) gSp (fun x t ho=> ?_) (fun e t ho=>by(repeat (first|with_reducible refine a0G ?_|with_reducible refine a0M ?_));exact a0Y ((by rw[e0];exact a0Q ho)) (fun _ _ h=>h) gSp)
 refine ns ?_
 obtain⟨hts,hln⟩:=i0H ho
 rw[hts]at ho ⊢
 rw[a0A ho]at e0
 have hsz:(ndL l x).toArray.size=41:=by rw[List.size_toArray,p0F hln]
 have c1:(x.kids.map a0V).length=8:=by simp[hln.n]
 refine(a0U Zr.o (fun b11=> ?_))
 refine a0K Sz.o rfl rfl hsz (d1Z _ _) (by rw[hsz];exact Nat.le_refl 41) (a0R (by rw[hsz];rfl)) ?_
 refine go 6 ?_
 refine a0F (a0O Ag.o rfl (by show 0+1+8≤(ndL l x).toArray.size;rw[hsz];omega) (e0M (a:= [a0V l]) rfl c1)) ?_
 refine go 4 ?_
 refine b0S (X:= {y:Nat×St // y.1≤8∧y.2.bits=s.bits∧h0V l root at_ to_ s=a0B (h0T (g0O · l) (x.kids.drop y.1)) (fun _=>l1C l x root at_ to_) y.2}) (fun y=> [(0,ptr a.maps),(1,.int .i64 root),(2,.int .i64 l),(3,.int .i64 at_),(4,.int .i64 to_),(11,ptr b11),(21,.agg (x.kids.map a0V).toArray),(22,.int .i64 y.1.1)]) (fun y=>RS W a y.1.2++ [pts b11 (.cells (ndL l x).toArray 182 (0,0)),R]) (fun y=>8-y.1.1) ⟨(0,s),by omega,rfl,e0⟩ gSu gSp ?_
 rintro⟨⟨i,u⟩,hi,hub,he⟩ m0 hm0
 try simp only at hm0
 try dsimp only
 simp only at hi hub he
 simp only[List.cons_append,List.nil_append]
 refine go 6 ?_
 refine b0C rfl (fun hb23=> ?_) (fun hb23=> ?_)
 ·have hi8:i<8:=by have:=of_decide_eq_true hb23;omega
  have hil:i<x.kids.length:=by rw[hln.n];exact hi8
  rw[List.drop_eq_getElem_cons hil]at he
  refine go 6 ?_
  refine a0F (q0Y Tar.o Sc.o rfl rfl (by omega) (n0W a0V x.kids i _ hil (by omega))) ?_
  refine go 7 ?_
  refine b0F rfl Hb.o rfl (i1U W a u x.kids[i] l (by rw[he]at hnb;exact r1P (f:=(g0O · l)) (c0R hnb))) gSp (fun b' t' ho=> ?_) (fun e t ho=>by(repeat (first|with_reducible refine a0G ?_|with_reducible refine a0M ?_));exact a0Y ((by rw[he];exact a0Q (r1O (f:=(g0O · l)) ho))) (fun _ _ h=>h) gSp)
  refine ns ?_
  refine go 6 ?_
  refine b0Q (fun _ _ h=>h) (⟨(i+1,t'),hi8,(by have:=g1D x.kids[i] l u;rw[ho]at this;exact this.trans hub),by rw[he];unfold a0B;rw[x1Q (f:=(g0O · l)) ho]⟩) (by first|omega| (simp only;omega)) gSu gSp
 ·obtain rfl:i=8:=by have:=of_decide_eq_false hb23;omega
  have he1:h0V l root at_ to_ s=l1C l x root at_ to_ u:=by rw[he,List.drop_eq_nil_of_le (by rw[hln.n];exact Nat.le_refl _)];rfl
  clear he
  refine go 7 ?_
  refine b0F rfl Hb.o rfl (c1M W a l (by omega) u root (by omega) (by rw[he1]at hnb;exact c0R hnb)) gSp (fun b t0 ho=> ?_) (fun e t ho=>by(repeat (first|with_reducible refine a0G ?_|with_reducible refine a0M ?_));exact a0Y ((by rw[he1];exact a0Q ho)) (fun _ _ h=>h) gSp)
  refine ns ?_
  refine go 3 ?_
  have htb:t0.bits=s.bits:=by have:=w0M (l+1) root u;rw[show g0B (l+1) root u=_ from ho]at this;exact this.trans hub
  have he2:h0V l root at_ to_ s=a0B (f2M l x at_ to_) (fun r=>c1N l (x.kids.set (b0X l at_).1 r)) t0:=by rw[he1];exact a0A ho
  refine go 3 ?_
  refine a0D rfl Hb.o rfl (m1T l at_ hl hat) gSp ?_
  refine ns ?_
  refine go 7 ?_
  refine r0A (X:= {y:Int×St // y.2.bits=s.bits∧h0V l root at_ to_ s=c1N l (x.kids.set (b0X l at_).1 y.1) y.2}) (fun y=> [(0,ptr a.maps),(2,.int .i64 l),(11,ptr b11)]) (fun y=>RS W a y.1.2++ [pts b11 (.cells (ndL l {x with kids:=x.kids.set (b0X l at_).1 y.1.1}).toArray 182 (0,0)),R]) ?_ ?_
  ·refine go 6 ?_
   refine b0C rfl (fun hb41=> ?_) (fun hb41=> ?_)
   ·obtain rfl:l=0:=by have h:=hb41;simp only[beq_iff_eq]at h;omega
    refine go 1 ?_
    refine d0S 8 Fol.o (by kernel_rfl) ?_
    simp only[List.take_succ_cons,List.take_zero,List.drop_succ_cons,List.drop_zero]
    refine go 7 ?_
    refine c0K (b0T Sc.o rfl (f2N hln hs1 (by omega))) ?_
    refine go 1 ?_
    refine b0F rfl Hb.o rfl (a1C W a t0 (x.kids.getD (b0X 0 at_).1 0) (by omega) (by rw[he2]at hnb;exact c0R (c0R hnb))) gSp (fun b' t' ho=> ?_) (fun e t ho=>by(repeat (first|with_reducible refine a0G ?_|with_reducible refine a0M ?_));exact a0Y ((by rw[he2];exact a0Q (show a0B (g0A (x.kids.getD (b0X 0 at_).1 0)) (fun _=>ret to_) t0=_ from a0Q ho))) (fun _ _ h=>h) gSp)
    refine ns ?_
    refine go 7 ?_
    refine d0V Sz.o rfl rfl rfl (by rw[p0F hln,Nat.blt_eq];omega) (f2O hln hs1 (by omega)) ?_
    refine go 1 ?_
    refine i0D (fun _ _ h=>h) (⟨(to_,t'),(by have:=a1E (x.kids.getD (b0X 0 at_).1 0) t0;rw[ho]at this;exact this.trans htb),by rw[he2];exact a0A (show a0B (g0A (x.kids.getD (b0X 0 at_).1 0)) (fun _=>ret to_) t0=(.ok to_,t') by rw[a0A ho];rfl)⟩) gSu gSp
   ·obtain⟨m,hm⟩: ∃m,l=m+1:=⟨l-1,by have h:=hb41;simp only[beq_eq_false_iff_ne]at h;omega⟩
    refine go 6 ?_
    refine a0F (b0T Sc.o rfl (f2N hln hs1 (by omega))) ?_
    refine go 2 ?_
    rw[show(l:Int)-1=(m:Int) by omega]
    refine go 2 ?_
    refine b0F rfl Hb.o rfl (hrec m hm t0 (x.kids.getD (b0X l at_).1 0) (b0X l at_).2 to_ (by omega) (by omega) (by subst hm;rw[he2]at hnb;exact c0R hnb)) gSp (fun r t' ho=> ?_) (fun e t ho=>by(repeat (first|with_reducible refine a0G ?_|with_reducible refine a0M ?_));exact a0Y ((by subst hm;rw[he2];exact a0Q ho)) (fun _ _ h=>h) gSp)
    refine ns ?_
    refine go 2 ?_
    refine d0V Sz.o rfl rfl rfl (by rw[p0F hln,Nat.blt_eq];omega) (f2O hln hs1 (by omega)) ?_
    refine go 1 ?_
    refine i0D (fun _ _ h=>h) (⟨(r,t'),(by have:=k1Y m (x.kids.getD (b0X l at_).1 0) (b0X l at_).2 to_ t0;rw[ho]at this;exact this.trans htb),by subst hm;rw[he2];exact a0A ho⟩) gSu gSp
  rintro⟨⟨r,v⟩,hvb,he3⟩
  dsimp only at hvb he3 ⊢
  simp only[List.cons_append,List.nil_append]
  generalize hk:x.kids.set (b0X l at_).1 r=kids at he3 ⊢
  have hkl:kids.length=8:=by rw[←hk,List.length_set,hln.n]
  have hn2:o0K {x with kids:=kids} :=⟨hkl,hln.sum⟩
  have hsz2:(ndL l {x with kids:=kids}).toArray.size=41:=by rw[List.size_toArray,p0F hn2]
  refine go 3 ?_
  refine a0F (a0O Ag.o rfl (by rw[hsz2];omega) (a0I hsz2)) ?_
  refine a0D rfl Hb.o rfl (a2P l {x with kids:=kids} hn2) gSp ?_
  refine ns ?_
  refine go 2 ?_
  refine b0C rfl (fun hb69=> ?_) (fun hb69=> ?_)
  ·refine go 5 ?_
   exact c0I (by rw[he3];unfold c1N;rw[if_pos (of_decide_eq_true hb69)];rfl) (fun _ _ h=>h) rfl rfl gSp
  ·have he4:h0V l root at_ to_ s=a0B (g0P l kids) (fun ss=>e0S (i0R l {kids:=kids,sum:=f0X l ss})) v:=by rw[he3];unfold c1N;rw[if_neg (of_decide_eq_false hb69)]
   refine go 6 ?_
   refine a0F (a0O Ag.o rfl (by rw[hsz2];omega) (a0I hsz2)) ?_
   refine b0F rfl Hb.o rfl (b2E W a v l (by omega) {x with kids:=kids} hn2) gSp (fun ss t' ho=> ?_) (fun e t ho=>by(repeat (first|with_reducible refine a0G ?_|with_reducible refine a0M ?_));exact a0Y ((by rw[he4];exact a0Q ho)) (fun _ _ h=>h) gSp)
   refine ns ?_
   obtain⟨htv,hsl,hs32⟩:=i1W l ho
   rw[htv]at ho ⊢
   rw[a0A ho]at he4
   have hdl:=u0U l ss
   have hds:((f0X l ss).map a0Z).toArray.size=32:=by rw[List.size_toArray,List.length_map,hdl]
   have hn3:o0K {kids:=kids,sum:=f0X l ss} :=⟨hkl,hdl⟩
   have hsz3:(ndL l {kids:=kids,sum:=f0X l ss}).toArray.size=41:=by rw[List.size_toArray,p0F hn3]
   refine a0D rfl Hb.o rfl (v1B W hW l (by omega) ss (by rw[hsl];exact hkl) hs32) gSp ?_
   refine ns ?_
   refine go 1 ?_
   refine a0K Sz.o rfl rfl hds (fun x hx=>by simp at hx;obtain⟨_,_,rfl⟩:=hx;rfl) (by rw[hds,hsz2];omega) (f2P hn2 hdl) ?_
   refine go 3 ?_
   refine d0H (.soft 0 (.soft 1 (.soft 2 (.soft 3 (.soft 4 (.hard 5 (.hard 6 (.soft 7 .done)))))))) [mpC a,pts b11 (.cells (ndL l {kids:=kids,sum:=f0X l ss}).toArray 182 (0,0))] Fol.o (by kernel_rfl) (by repeat (first|with_reducible exact a0J.bp|with_reducible apply a0J.then|with_reducible apply a0J.inBlock)) gSp ?_
   refine go 4 ?_
   refine d0D rfl (a0O Ag.o rfl (by rw[hsz3];omega) (a0I hsz3)) ?_
   refine go 1 ?_
   refine a0D rfl Hb.o rfl (q1Z l {kids:=kids,sum:=f0X l ss} hn3) gSp ?_
   refine ns ?_
   refine go 3 ?_
   refine b0F rfl Hb.o rfl (m1H W a v (i0R l {kids:=kids,sum:=f0X l ss}) (by rw[p2P hn3];omega) (by rw[he4]at hnb;exact hnb)) gSp (fun z z' ho=> ?_) (fun e t ho=>by(repeat (first|with_reducible refine a0G ?_|with_reducible refine a0M ?_));exact a0Y ((by rw[he4];exact ho)) (fun _ _ h=>h) gSp)
   refine ns ?_
   refine go 5 ?_
   exact c0I (he4.trans ho) (fun _ _ h=>h) rfl rfl gSp
end
section
theorem r1T (W:World) (hW:h0L W) (a:Ad): ∀l,l<3→l1D W a l
 |0,h=>n1G W hW a 0 h (fun m e=>by omega)
 |l+1,h=>n1G W hW a (l+1) h (fun m e=>by have e':m=l:=(Nat.succ.inj e).symm;rw[e'];exact r1T W hW a l (by omega))
def b2F (n:Nat) (root:Int) (at_:Nat):M Int:=match n with
 |0=>ret root
 |l+1=>k0I l root at_
theorem x1T (l:Nat) (root:Int) (at_:Nat):b2F (l+1) root at_=a0B (Go.Sb.load root l) fun n=>b2F l (n.kids.getD (b0X l at_).1 0) (b0X l at_).2:=by cases l<;>rfl
theorem x1U: ∀(n:Nat) {root:Int} {at_:Nat} {s t:St} {x:Int},b2F n root at_ s=(.ok x,t)→t=s
 |0,root,at_,s,t,x,h=>by cases h;rfl
 |l+1,root,at_,s,t,x,h=>by
  rw[x1T]at h
  cases hg:Go.Sb.load root l s with
  |mk o u=>
   cases o with
   |ok v=>rw[a0A hg]at h;exact(x1U l h).trans (i0H hg).1
   |err e=>rw[a0Q hg]at h;cases h
   |big=>unfold a0B at h;rw[hg]at h;cases h
theorem r1U {l:Int} {x:Nd} (h:o0K x):(ndL l x).toArray.extract 1 (1+8)=(x.kids.map a0V).toArray:=e0M (a:= [a0V l]) rfl (by simp[h.n])
set_option maxRecDepth 4000 in
attribute [local irreducible] Sl.a0L Sl.OW Sl.CW Sl.OS Sl.OM Sl.OMf Sl.KM
theorem n1H (W:World) (a:Ad) (s:St) (root:Int) (at_:Nat) (hat:at_<1000000):a0S Tryz.prog 115 #[ptr a.maps,.int .i64 root,.int .i64 at_] (RS W a s) (Ran fT (RS W a) a0V (k0I 2 root at_ s)):=by
 refine a0C Tryz.func115 rfl Tryz.ntmps115 rfl (fun R w0=> ?_)
 simp only[a0N,List.cons_append,List.nil_append]
 refine go 12 ?_
 refine b0S (X:= {y:Nat×Int×Nat // y.1≤3∧y.2.2<1000000∧k0I 2 root at_ s=b2F y.1 y.2.1 y.2.2 s}) (fun y=> [(0,ptr a.maps),(1,.int .i64 y.1.2.1),(2,.int .i64 y.1.2.2),(7,.int .i64 ((y.1.1:Int)-1))]) (fun y=>RS W a s++ [R]) (fun y=>y.1.1) ⟨(3,root,at_),by omega,hat,rfl⟩ gSu gSp ?_
 rintro⟨⟨n,r,k⟩,hi,hk,he⟩ m0 hm0
 try simp only at hm0
 try dsimp only
 simp only at hi hk he
 simp only[List.cons_append,List.nil_append]
 refine go 7 ?_
 refine b0C rfl (fun hb11=> ?_) (fun hb11=> ?_)
 ·obtain⟨l,rfl⟩: ∃l,n=l+1:=⟨n-1,by have:=of_decide_eq_true hb11;omega⟩
  rw[x1T]at he
  rw[show((l+1:Nat):Int)-1=(l:Int) by omega]
  have hs1:(b0X l k).1<8:=Nat.mod_lt _ (by decide)
  have hs2:(b0X l k).2≤k:=Nat.mod_le _ _
  refine go 8 ?_
  refine a0D rfl Hb.o rfl (m1T l k (by omega) hk) gSp ?_
  refine ns ?_
  refine go 11 ?_
  refine b0F rfl Hb.o rfl (r0S W a s r l) gSp (fun x t ho=> ?_) (fun e t ho=>by(repeat (first|with_reducible refine a0G ?_|with_reducible refine a0M ?_));exact a0Y ((by rw[he];exact a0Q ho)) (fun _ _ h=>h) gSp)
  refine ns ?_
  obtain⟨hts,hln⟩:=i0H ho
  rw[hts]at ho ⊢
  rw[a0A ho]at he
  have hil:(b0X l k).1<x.kids.length:=by rw[hln.n];exact hs1
  refine a0F (r0X (v:=(x.kids.map a0V).toArray) F.fa182_1 rfl (r1U hln)) ?_
  refine go 1 ?_
  refine a0F (q0Y Tar.o Sc.o rfl rfl (by omega) (n0W a0V x.kids (b0X l k).1 _ hil (by omega))) ?_
  rw[←z0Z hil]
  refine go 10 ?_
  refine b0Q (fun _ _ h=>h) (⟨(l,x.kids.getD (b0X l k).1 0,(b0X l k).2),by(show l≤3);omega,by(show(b0X l k).2<1000000);omega,he⟩) (by first|omega| (simp only;omega)) gSu gSp
 ·obtain rfl:n=0:=by have:=of_decide_eq_false hb11;omega
  refine go 8 ?_
  exact c0I he (fun _ _ h=>h) rfl rfl gSp
theorem c1O (W:World) (hW:h0L W) (a:Ad) (s:St) (root:Int) (at_:Nat) (to_:Int) (hbits:s.bits≤256) (hat:at_<1000000) (hnb:(l0J root at_ to_ s).1≠ .big):a0S Tryz.prog 163 #[ptr a.maps,.int .i64 root,.int .i64 at_,.int .i64 to_] (RS W a s) (Ran fT (RS W a) a0V (l0J root at_ to_ s)):=by
 have e0:l0J root at_ to_ s=a0B (k0I 2 root at_) (fun x=>if x=to_ then a0B (g0A to_) fun _=>ret root else h0V 2 root at_ to_) s:=rfl
 refine a0C Tryz.func163 rfl Tryz.ntmps163 rfl (fun R w0=> ?_)
 simp only[a0N,List.cons_append,List.nil_append]
 refine go 11 ?_
 refine b0F rfl Hb.o rfl (n1H W a s root at_ hat) gSp (fun x t ho=> ?_) (fun e t ho=>by(repeat (first|with_reducible refine a0G ?_|with_reducible refine a0M ?_));exact a0Y ((by rw[e0];exact a0Q ho)) (fun _ _ h=>h) gSp)
 refine ns ?_
 have hts:=x1U 3 ho
 rw[hts]at ho ⊢
 rw[a0A ho]at e0
 refine go 4 ?_
 refine b0C rfl (fun hb14=> ?_) (fun hb14=> ?_)
 ·have hx:x=to_:=by have h:=hb14;simp only[beq_iff_eq]at h;exact h
  rw[if_pos hx]at e0
  refine go 7 ?_
  refine b0F rfl Hb.o rfl (a1C W a s to_ hbits (by rw[e0]at hnb;exact c0R hnb)) gSp (fun b t ho=> ?_) (fun e t ho=>by(repeat (first|with_reducible refine a0G ?_|with_reducible refine a0M ?_));exact a0Y ((by rw[e0];exact a0Q ho)) (fun _ _ h=>h) gSp)
  refine ns ?_
  refine go 8 ?_
  exact c0I (e0.trans (a0A ho)) (fun _ _ h=>h) rfl rfl gSp
 ·have hx: ¬x=to_:=by have h:=hb14;simp only[beq_eq_false_iff_ne]at h;exact h
  rw[if_neg hx]at e0
  refine go 8 ?_
  refine b0F rfl Hb.o rfl (r1T W hW a 2 (by omega) s root at_ to_ hbits hat (by rw[e0]at hnb;exact hnb)) gSp (fun r t ho=> ?_) (fun e t ho=>by(repeat (first|with_reducible refine a0G ?_|with_reducible refine a0M ?_));exact a0Y ((by rw[e0];exact ho)) (fun _ _ h=>h) gSp)
  refine ns ?_
  refine go 3 ?_
  exact c0I (e0.trans ho) (fun _ _ h=>h) rfl rfl gSp
end
end Go.Proofs.Q
namespace Go.Sl
section
section
variable {c:Cx} {ops:Array Oper} {Q:Exit→Act→World→Prop} {K:List a0E} {steps:m0Q} {env:List (Nat×Value)} {L:List a0E}
theorem j0N (hK: ∀w,Sat w L→Sat w K) (h:OM c ops Q K steps env L):KW c (Exit.then (KM c ops Q K steps) Q) .normal env L:=by
 intro a w hh
 have hs:Sat w K:=hK w hh.sat
 exact⟨⟨hs,hh.like⟩,fun l hB hn hQ=>h l a w hB hn hQ hh hs⟩
theorem l1E {id:Nat} {l:List Oper} (steps:m0Q) (K:List a0E) (hm:c.P.follows .mixedOrders=true)
 (hB:(Region.noSelect l.toArray&&(Nat.beq steps.len l.length&&k0Z l.toArray steps (Array.replicate l.length false)))=true) (hQ:a0J Q) (hK: ∀w,Sat w L→Sat w K) (h:OM c l.toArray Q K steps env L):CW c (.region id l.toArray true) Q env L:=by
 intro a w hh
 simp only[Bool.and_eq_true]at hB
 have hh':=hh.drew
 have hs:Sat w.drew K:=hK _ hh'.sat
 have h1:=h _ a w.drew hB.2.2 hB.1 hQ hh' hs
 refine wp_region_held (S:=p0M c K) hm ?_
 have e:steps.len=l.toArray.size:=by simpa using Nat.eq_of_beq_eq_true hB.2.1
 rw[←e]
 have e2:Array.replicate steps.len false=Array.replicate l.length false:=by rw[Nat.eq_of_beq_eq_true hB.2.1]
 rw[e2]
 exact h1
end
end
end Go.Sl
namespace Go.Sb
inductive Car (α:Type) where
 |start
 |done (a:α)
 |lost
def g0C {α:Type} (m:M α):Run (St×Car α) Unit:=fun x=>match m x.1 with
 | (.ok a,t)=>(.ok (),(t,.done a))
 | (.err e,t)=>(.err e,(t,.lost))
 | (.big,t)=>(.big,(t,.lost))
def r1V {α:Type} (m:M α):Run (St×Car α) Int:=n0T (g0C m)
def i0I {α:Type} (m:M α):M (Int×Car α):=fun s=>match r1V m (s,.start)with
 | (.ok e,(t,c))=>(.ok (e,c),t)
 | (.err e,(t,_))=>(.err e,t)
 | (.big,(t,_))=>(.big,t)
def e0V {α:Type} (more:Nat) (m:M α):M α:=a0B (m0L more) fun _=>m
def a1I {α:Type} (d:α):Car α→α
 | .done a=>a
 |_=>d
def g0T (x:Ent) (at_ n:Int):M Unit:=if 5000<x.size then fun s=>(.big,s)else k0U x at_ n
def l0V (made:M Ent):M (Int×Int):=fun s=>
 if 16≤s.vols.length then(.ok (0,13),s)else
 a0B (i0I (e0V 1 (a0B made u0K))) (fun r=>ret (if r.1=0 then(a1I 0 r.2,0)else(0,r.1))) s
def g0J (size:Int):M (Int×Int):=if size<1∨2048<size then ret (0,4)else l0V (ret {j0I with size:=size})
def x0K (id:Int) (only:Bool):M Ent:=a0B (find id) fun x=>a0B (g0O x.root 3) fun _=>ret {j0I with parent:=id,only:=only,size:=x.size,root:=x.root}
def h0X (id:Int) (only:Bool):M (Int×Int):=fun s=>match a0H id s.vols with
 |none=>(.ok (0,5),s)
 |some _=>l0V (x0K id only) s
def h0Y (id at_:Int) (data:B):M Unit:=a0B (l0C id) fun x=>if data.length%64≠0 then n0F 4 else
 a0B (g0T x at_ (data.length/64:Nat)) fun _=>a0B (e0U x at_.toNat data) l0K
def h0E (id at_:Int) (data:B):M Int:=a0B (i0I (e0V 0 (h0Y id at_ data))) fun r=>ret r.1
def n0P (id at_ n:Int):M B:=a0B (find id) fun x=>a0B (g0T x at_ n) fun _=>j0J n.toNat x at_.toNat n.toNat
def o0T (id at_ n:Int):M (B×Int):=a0B (i0I (n0P id at_ n)) fun r=>ret (if r.1=0 then(a1I [] r.2,0)else([],r.1))
end Go.Sb
namespace Go.Proofs.Q
open Go.Sl Go.Sb
section
def RO {α:Type} (m:M α):Prop:= ∀s,(m s).2=s
theorem p0G {α β:Type} {m:M α} {f:α→M β} (h:RO m) (hf: ∀a,RO (f a)):RO (a0B m f):=fun s=>by
 unfold a0B
 have h1:=h s
 cases e:m s with
 |mk o t=>
  rw[e]at h1
  cases o with
  |ok a=>exact(hf a t).trans h1
  |err e=>exact h1
  |big=>exact h1
theorem s0J {α:Type} (a:α):RO (ret a:M α):=fun _=>rfl
theorem e1A {α:Type} {p:Prop} [Decidable p] {m n:M α} (h:RO m) (h':RO n):RO (if p then m else n):=by split<;>assumption
theorem e1B (at_:Int):RO (i0E at_):=fun s=>by unfold i0E;split<;>rfl
theorem x1V (a:Int) (l:Nat):RO (Go.Sb.load a l):=e1A (s0J _) (p0G (e1B a) fun _=>fun _=>rfl)
theorem y0T: ∀l root at_,RO (k0I l root at_)
 |0,root,at_=>by unfold k0I;exact p0G (x1V _ _) fun _=>s0J _
 |l+1,root,at_=>by unfold k0I;exact p0G (x1V _ _) fun _=>y0T l _ _
theorem c1P (x:Hd): ∀n,RO (f0N x n)
 |0=>s0J _
 |n+1=>by
  unfold f0N
  exact p0G (e1A (p0G (e1B _) fun _=>e1A (fun _=>rfl) (s0J _)) (s0J _)) fun _=>p0G (c1P x n) fun _=>s0J _
theorem x1W (a:Int):RO (k0H a):=e1A (s0J _) (p0G (p0G (e1B a) fun _=>fun _=>rfl) fun x=>c1P x 4)
theorem l1F (x:Ent) (i:Nat):RO (o0H x i):=p0G (y0T _ _ _) x1W
theorem r1W {W:World} {a:Ad} {α:Type} {val:α→Value} {s:St} {o:Out α×St} {e:Ending} {L:List a0E} (h:o.2=s):Ran fT (fun _:St=>RS W a s) val o e L↔Ran fT (RS W a) val o e L:=by
 obtain⟨o,t⟩:=o
 have h:t=s:=h
 subst h
 cases o<;>exact Iff.rfl
section
variable {c:Cx} {d:Option Tmp} {ty:TypeId} {pos:String} {af:Array Edge} {g:Option (Nat×Bool)} {env:List (Nat×Value)} {L M:List a0E} {a:Ad} {s:St}
theorem x1X {w:World} (h:Sat w (HL a s::M)): ∃M',Sat w (q0Z a s.next s.epoch::M'):=by
 obtain⟨x,hs⟩:=l0Q.1 h
 have h1:=c0A.1 hs
 simp only[hlV,e0A,List.cons_append,List.nil_append]at h1
 exact⟨_,(show Fnd _ (q0Z a s.next s.epoch) _ from gFd).sat h1⟩
theorem k0W {x:Operand} {t:TypeId} {k:Nat} {v:Value} (ht:i0B c.P t=true) (hx:evo env x=some (.pointer (some ⟨a.core,k,none⟩))) (hL:Fnd L (HL a s) M) (hv:nth (p0T a s.next s.epoch) k=some v):
 Sl.a0L c ⟨d,.load t x,ty,pos,af,g⟩ env L v:=
 y0F ht hx hL fun w L' hs=>by
  obtain⟨M',h1⟩:=x1X hs
  have h2:=h1.pts
  rw[e0L]at hv
  simp[World.cell?,h2,hv]
def HLX (a:Ad):a0E:=ex fun s:St=>HL a s
theorem e1C {x:Operand} {t:TypeId} {k:Nat} {v:Value} (ht:i0B c.P t=true) (hx:evo env x=some (.pointer (some ⟨a.core,k,none⟩))) (hL:Fnd L (HLX a) M) (hv: ∀n e,nth (p0T a n e) k=some v):
 Sl.a0L c ⟨d,.load t x,ty,pos,af,g⟩ env L v:=
 y0F ht hx hL fun w L' hs=>by
  obtain⟨s,hs⟩:=l0Q.1 hs
  obtain⟨M',h1⟩:=x1X hs
  have h2:=h1.pts
  have hv:=hv s.next s.epoch
  rw[e0L]at hv
  simp[World.cell?,h2,hv]
theorem i0W {K R:List a0E} (hK:b0L L (HL a s::K) R) (w:World) (h:Sat w L):Sat w (HLX a::K):=by
 have h1:=(h.perm hK).perm List.perm_append_comm
 exact l0Q.2 ⟨s,h1.drop⟩
end
abbrev s0K (b:Nat) (x:Ent):a0E:=pts b (.cells (b0M x).toArray 50 (0,0))
attribute [local irreducible] Sl.a0L Sl.OW Sl.CW Sl.OS Sl.OM Sl.OMf Sl.KM
theorem c1Q (W:World) (a:Ad) (s:St) (id:Int):a0S Tryz.prog 15 #[ptr a.core,.int .u32 id] [HL a s] (b0G (.tuple #[e0K ((a0H id s.vols).getD j0I),.int .i64 (if(a0H id s.vols).isSome then 0 else 5)]) [HL a s]):=by
 cases hm:a0H id s.vols with
 |none=>
  refine a0C Tryz.func15 rfl Tryz.ntmps15 rfl (fun R w0=> ?_)
  simp only[a0N,List.cons_append,List.nil_append]
  refine f0F gFd fun by_ gv gc o hg hok=> ?_
  simp only[e0A,p0T,List.cons_append,List.nil_append]
  refine go 2 ?_
  refine(a0U Zr.o (fun b4=> ?_))
  refine go 10 ?_
  refine a0F (o0Y (ek:=j0V) (ev:=e0K) (k:=id) e0T.o b1S (tt fun _=>trivial) trivial Zr.o rfl rfl gFd i1F) ?_
  refine go 1 ?_
  rw[hm]
  refine go 2 ?_
  refine(a0U Zr.o (fun b6=> ?_))
  refine a0K Sz.o rfl rfl rfl (by simp[b0M,Value.oneCell']) (by simp[b0M,Value.cells]) (a0R (by simp[b0M,Value.cells])) ?_
  refine go 13 ?_
  refine a0F (a0O Ag.o rfl (by simp[Value.cells,b0M]) (a0I (by simp[Value.cells,b0M]))) ?_
  refine a0K Sz.o rfl rfl rfl (by simp[b0M,Value.oneCell']) (by simp[b0M,Value.cells]) (a0R (by simp[b0M,Value.cells])) ?_
  refine go 3 ?_
  refine c0S (d0Q hg hok gSp) (p0L (fun _ _ h=>h) (RV.agg Ag.o rfl (by simp[Value.cells,b0M]) (a0I (by simp[Value.cells,b0M])) (RV.tmp rfl RV.nil)) rfl gSp)
 |some x=>
  refine a0C Tryz.func15 rfl Tryz.ntmps15 rfl (fun R w0=> ?_)
  simp only[a0N,List.cons_append,List.nil_append]
  refine f0F gFd fun by_ gv gc o hg hok=> ?_
  simp only[e0A,p0T,List.cons_append,List.nil_append]
  refine go 2 ?_
  refine(a0U Zr.o (fun b4=> ?_))
  refine go 10 ?_
  refine a0F (o0Y (ek:=j0V) (ev:=e0K) (k:=id) e0T.o b1S (tt fun _=>trivial) trivial Zr.o rfl rfl gFd i1F) ?_
  refine go 1 ?_
  rw[hm]
  refine go 2 ?_
  refine(a0U Zr.o (fun b6=> ?_))
  refine a0K Sz.o rfl rfl rfl (by simp[b0M,Value.oneCell']) (by simp[b0M,Value.cells]) (a0R (by simp[b0M,Value.cells])) ?_
  refine go 15 ?_
  refine a0F (a0O Ag.o rfl (by simp[Value.cells,b0M]) (a0I (by simp[Value.cells,b0M]))) ?_
  refine a0K Sz.o rfl rfl rfl (by simp[b0M,Value.oneCell']) (by simp[b0M,Value.cells]) (a0R (by simp[b0M,Value.cells])) ?_
  refine go 3 ?_
  refine c0S (d0Q hg hok gSp) (p0L (fun _ _ h=>h) (RV.agg Ag.o rfl (by simp[Value.cells,b0M]) (a0I (by simp[Value.cells,b0M])) (RV.tmp rfl RV.nil)) rfl gSp)
end
section
theorem f2Q {s:St} {id:Int} {x:Ent} (h:a0H id s.vols=some x):find id s=(.ok x,s):=by unfold find;rw[h]
theorem f2R {s:St} {id:Int} (h:a0H id s.vols=none):find id s=(.err 5,s):=by unfold find;rw[h]
attribute [local irreducible] Sl.a0L Sl.OW Sl.CW Sl.OS Sl.OM Sl.OMf Sl.KM
theorem u0D (W:World) (a:Ad) (s:St) (id:Int):a0S Tryz.prog 53 #[ptr a.core,.int .u32 id] (RS W a s) (Ran fT (RS W a) e0K (find id s)):=by
 have hi:=c1Q W a s id
 cases hm:a0H id s.vols with
 |none=>
  rw[hm]at hi
  rw[f2R hm]
  refine a0C Tryz.func53 rfl Tryz.ntmps53 rfl (fun R w0=> ?_)
  simp only[a0N,List.cons_append,List.nil_append]
  refine go 2 ?_
  refine(a0U Zr.o (fun b4=> ?_))
  refine go 6 ?_
  refine a0D rfl Hb.o rfl (hi) gSp ?_
  refine ns ?_
  refine go 3 ?_
  refine(a0U Zr.o (fun b5=> ?_))
  refine a0K Sz.o rfl rfl rfl (by simp[b0M,Value.oneCell']) (by simp[b0M,Value.cells]) (a0R (by simp[b0M,Value.cells])) ?_
  refine go 13 ?_
  refine c0M rfl Hb.o rfl (d0C 5) gSp ?_
  simp only[List.cons_append,List.nil_append]
  refine pn ?_
  exact a0Y rfl (fun _ _ h=>h) gSp
 |some x=>
  rw[hm]at hi
  rw[f2Q hm]
  refine a0C Tryz.func53 rfl Tryz.ntmps53 rfl (fun R w0=> ?_)
  simp only[a0N,List.cons_append,List.nil_append]
  refine go 2 ?_
  refine(a0U Zr.o (fun b4=> ?_))
  refine go 6 ?_
  refine a0D rfl Hb.o rfl (hi) gSp ?_
  refine ns ?_
  refine go 3 ?_
  refine(a0U Zr.o (fun b5=> ?_))
  refine a0K Sz.o rfl rfl rfl (by simp[b0M,Value.oneCell']) (by simp[b0M,Value.cells]) (a0R (by simp[b0M,Value.cells])) ?_
  refine go 15 ?_
  refine a0F (a0O Ag.o rfl (by simp[Value.cells,b0M]) (a0I (by simp[Value.cells,b0M]))) ?_
  refine a0K Sz.o rfl rfl rfl (by simp[b0M,Value.oneCell']) (by simp[b0M,Value.cells]) (a0R (by simp[b0M,Value.cells])) ?_
  refine go 2 ?_
  exact j0H rfl (fun _ _ h=>h) (RV.agg Ag.o rfl (by simp[Value.cells,b0M]) (a0I (by simp[Value.cells,b0M])) RV.nil) rfl gSp
theorem a1J (W:World) (a:Ad) (s:St) (id:Int):a0S Tryz.prog 66 #[ptr a.core,.int .u32 id] (RS W a s) (Ran fT (RS W a) e0K (l0C id s)):=by
 have e0:l0C id s=a0B (find id) (fun x=>if x.only then n0F 7 else ret x) s:=rfl
 refine a0C Tryz.func66 rfl Tryz.ntmps66 rfl (fun R w0=> ?_)
 simp only[a0N,List.cons_append,List.nil_append]
 refine go 2 ?_
 refine(a0U Zr.o (fun b4=> ?_))
 refine go 6 ?_
 refine b0F rfl Hb.o rfl (u0D W a s id) gSp (fun x t ho=> ?_) (fun e t ho=>by(repeat (first|with_reducible refine a0G ?_|with_reducible refine a0M ?_));exact a0Y ((by rw[e0];exact a0Q ho)) (fun _ _ h=>h) gSp)
 refine ns ?_
 rw[a0A ho]at e0
 refine(a0U Zr.o (fun b5=> ?_))
 refine a0K Sz.o rfl rfl rfl (by simp[b0M,Value.oneCell']) (by simp[b0M,Value.cells]) (a0R (by simp[b0M,Value.cells])) ?_
 refine go 9 ?_
 refine b0C rfl (fun hb10=> ?_) (fun hb10=> ?_)
 ·refine go 1 ?_
  refine c0M rfl Hb.o rfl (d0C 7) gSp ?_
  simp only[List.cons_append,List.nil_append]
  refine pn ?_
  exact a0Y (by rw[e0,if_pos hb10];rfl) (fun _ _ h=>h) gSp
 ·have hof: ¬(x.only=true):=by rw[hb10];simp
  refine go 4 ?_
  refine a0F (a0O Ag.o rfl (by simp[Value.cells,b0M]) (a0I (by simp[Value.cells,b0M]))) ?_
  refine a0K Sz.o rfl rfl rfl (by simp[b0M,Value.oneCell']) (by simp[b0M,Value.cells]) (a0R (by simp[b0M,Value.cells])) ?_
  refine go 2 ?_
  exact j0H (by rw[e0,if_neg hof];rfl) (fun _ _ h=>h) (RV.agg Ag.o rfl (by simp[Value.cells,b0M]) (a0I (by simp[Value.cells,b0M])) RV.nil) rfl gSp
theorem v1F {s:St} {k:Int} {v:Ent} (h:(r0K k v s).1≠ .big):s.log.length<1000000000:=s0G h fun h'=>by simp[r0K,a0B,back,h']
theorem b2G {s:St} (k:Int) (v:Ent) (h:s.log.length<1000000000):r0K k v s=(.ok (),{s with log:=bk s.depth s.log (.vols k (a0H k s.vols)),vols:=c0F k v s.vols}):=by
 simp[r0K,a0B,back,show ¬1000000000≤s.log.length by omega]
theorem u0E (W:World) (a:Ad) (s:St) (x:Ent) (hnb:(l0K x s).1≠ .big):a0S Tryz.prog 69 #[ptr a.core,e0K x] (RS W a s) (Ran fT (RS W a) k0P (l0K x s)):=by
 have hn:=v1F hnb
 rw[show l0K x s=_ from b2G x.id x hn]
 refine a0C Tryz.func69 rfl Tryz.ntmps69 rfl (fun R w0=> ?_)
 simp only[a0N,List.cons_append,List.nil_append,e0K]
 refine f0F gFd fun by_ gv gc o hg hok=> ?_
 simp only[e0A,p0T,d0I,List.cons_append,List.nil_append]
 refine go 2 ?_
 refine(a0X rfl (fun b3=> ?_))
 refine go 2 ?_
 refine d0S 14 Fol.o (by kernel_rfl) ?_
 simp only[List.take_succ_cons,List.take_zero,List.drop_succ_cons,List.drop_zero]
 refine go 13 ?_
 refine c0K (a0O Ag.o rfl (by simp[Value.cells,b0M]) (a0I (by simp[Value.cells,b0M]))) ?_
 refine go 1 ?_
 refine a0W rfl Hb.o rfl (u1L a by_ o s.log s.depth s.vols x.id x hn) gSp ?_
 rintro e _
 refine ns ?_
 refine go 1 ?_
 refine b0O (d0Q (s:= {s with log:=bk s.depth s.log (.vols x.id (a0H x.id s.vols)),vols:=c0F x.id x s.vols}) hg hok gSp) (d0X rfl rfl rfl gSp)
theorem y0B (W:World) (a:Ad) (s:St) (x:Ent) (at_ n:Int) (hnb:(g0T x at_ n s).1≠ .big):a0S Tryz.prog 59 #[e0K x,.int .i64 at_,.int .i64 n] (RS W a s) (Ran fT (RS W a) k0P (g0T x at_ n s)):=by
 have hs: ¬5000<x.size:=fun h=>hnb (by unfold g0T;rw[if_pos h])
 have e0:g0T x at_ n s=k0U x at_ n s:=by unfold g0T;rw[if_neg hs]
 rw[e0]
 by_cases h1:at_<0
 ·rw[show k0U x at_ n s=(.err 6,s) by unfold k0U;rw[if_pos (.inl h1)];rfl]
  refine a0C Tryz.func59 rfl Tryz.ntmps59 rfl (fun R w0=> ?_)
  simp only[a0N,List.cons_append,List.nil_append,e0K]
  refine go 2 ?_
  refine(a0X rfl (fun b3=> ?_))
  refine go 28 ?_
  refine c0M rfl Hb.o rfl (d0C 6) gSp ?_
  simp only[List.cons_append,List.nil_append]
  refine pn ?_
  exact a0Y rfl (fun _ _ h=>h) gSp
 ·by_cases h2:n<0
  ·rw[show k0U x at_ n s=(.err 6,s) by unfold k0U;rw[if_pos (.inr (.inl h2))];rfl]
   refine a0C Tryz.func59 rfl Tryz.ntmps59 rfl (fun R w0=> ?_)
   simp only[a0N,List.cons_append,List.nil_append,e0K]
   refine go 2 ?_
   refine(a0X rfl (fun b3=> ?_))
   refine go 28 ?_
   refine c0M rfl Hb.o rfl (d0C 6) gSp ?_
   simp only[List.cons_append,List.nil_append]
   refine pn ?_
   exact a0Y rfl (fun _ _ h=>h) gSp
  ·by_cases h3:x.size<at_
   ·rw[show k0U x at_ n s=(.err 6,s) by unfold k0U;rw[if_pos (.inr (.inr (.inl h3)))];rfl]
    refine a0C Tryz.func59 rfl Tryz.ntmps59 rfl (fun R w0=> ?_)
    simp only[a0N,List.cons_append,List.nil_append,e0K]
    refine go 2 ?_
    refine(a0X rfl (fun b3=> ?_))
    refine go 28 ?_
    refine c0M rfl Hb.o rfl (d0C 6) gSp ?_
    simp only[List.cons_append,List.nil_append]
    refine pn ?_
    exact a0Y rfl (fun _ _ h=>h) gSp
   ·by_cases h4:x.size-at_<n
    ·rw[show k0U x at_ n s=(.err 6,s) by unfold k0U;rw[if_pos (.inr (.inr (.inr h4)))];rfl]
     refine a0C Tryz.func59 rfl Tryz.ntmps59 rfl (fun R w0=> ?_)
     simp only[a0N,List.cons_append,List.nil_append,e0K]
     refine go 2 ?_
     refine(a0X rfl (fun b3=> ?_))
     refine go 28 ?_
     refine c0M rfl Hb.o rfl (d0C 6) gSp ?_
     simp only[List.cons_append,List.nil_append]
     refine pn ?_
     exact a0Y rfl (fun _ _ h=>h) gSp
    ·rw[show k0U x at_ n s=(.ok (),s) by unfold k0U;rw[if_neg (by omega)];rfl]
     refine a0C Tryz.func59 rfl Tryz.ntmps59 rfl (fun R w0=> ?_)
     simp only[a0N,List.cons_append,List.nil_append,e0K]
     refine go 2 ?_
     refine(a0X rfl (fun b3=> ?_))
     refine go 28 ?_
     exact d0X rfl rfl rfl gSp
end
section
theorem r2S (W:World) (a:Ad) (s:St) (root:Int) (at_:Nat) (hat:at_<1000000):a0S Tryz.prog 115 #[ptr a.maps,.int .i64 root,.int .i64 at_] (RS W a s) (Ran fT (fun _:St=>RS W a s) a0V (k0I 2 root at_ s)):=
 a0S.mono_ran (n1H W a s root at_ hat) (fun e L h=>(r1W (y0T 2 root at_ s)).2 h)
theorem r2T (W:World) (a:Ad) (s:St) (at_:Int):a0S Tryz.prog 114 #[ptr a.st,.int .i64 at_] (RS W a s) (Ran fT (fun _:St=>RS W a s) b0H (k0H at_ s)):=
 a0S.mono_ran (n1B W a s at_) (fun e L h=>(r1W (x1W at_ s)).2 h)
attribute [local irreducible] Sl.a0L Sl.OW Sl.CW Sl.OS Sl.OM Sl.OMf Sl.KM
theorem f2S (W:World) (a:Ad) (s:St) (x:Ent) (i:Nat) (hi:i<1000000):a0S Tryz.prog 61 #[ptr a.core,e0K x,.int .i64 i] (RS W a s) (Ran fT (fun _:St=>RS W a s) b0H (o0H x i s)):=by
 have e0:o0H x i s=a0B (k0I 2 x.root i) k0H s:=rfl
 refine a0C Tryz.func61 rfl Tryz.ntmps61 rfl (fun R w0=> ?_)
 simp only[a0N,List.cons_append,List.nil_append,e0K]
 refine go 2 ?_
 refine(a0X rfl (fun b4=> ?_))
 refine go 4 ?_
 refine d0H (.soft 0 (.soft 1 (.soft 2 (.soft 3 (.soft 4 (.soft 5 (.soft 6 (.soft 7 (.soft 8 (.soft 9 (.soft 10 (.soft 11 (.soft 12 (.soft 13 (.hard 14 (.hard 15 (.soft 16 .done))))))))))))))))) [HL a s,mpC a,s0K b4 x] Fol.o (by kernel_rfl) (by repeat (first|with_reducible exact a0J.bp|with_reducible apply a0J.then|with_reducible apply a0J.inBlock)) gSp ?_
 refine go 3 ?_
 refine d0D rfl (k0W Sc.o rfl gFd rfl) ?_
 refine go 6 ?_
 refine d0D rfl (k0W Sc.o rfl gFd rfl) ?_
 refine go 4 ?_
 refine b0F rfl Hb.o rfl (r2S W a s x.root i hi) gSp (fun r t ho=> ?_) (fun e t ho=>by(repeat (first|with_reducible refine a0G ?_|with_reducible refine a0M ?_));exact a0Y ((by rw[e0];exact a0Q ho)) (fun _ _ h=>h) gSp)
 refine ns ?_
 refine go 3 ?_
 have hq:=ho
 rw[show t=s by have:=y0T 2 x.root i s;rw[ho]at this;exact this]at hq
 refine b0F rfl Hb.o rfl (r2T W a s r) gSp (fun b t' ho=> ?_) (fun e t ho=>by(repeat (first|with_reducible refine a0G ?_|with_reducible refine a0M ?_));exact a0Y ((by rw[e0,a0A hq];exact ho)) (fun _ _ h=>h) gSp)
 refine ns ?_
 refine go 5 ?_
 exact c0I (by rw[e0,a0A hq];exact ho) (fun _ _ h=>h) rfl rfl gSp
theorem f2T (W:World) (a:Ad) (s:St) (x:Ent) (i:Nat) (hi:i<1000000):a0S Tryz.prog 61 #[ptr a.core,e0K x,.int .i64 i] (RS W a s) (Ran fT (RS W a) b0H (o0H x i s)):=
 a0S.mono_ran (f2S W a s x i hi) (fun e L h=>(r1W (l1F x i s)).1 h)
def s0L {α:Type} (o:Out α×St):Out Unit×(St×Option α):=match o with
 | (.ok a,s)=>(.ok (),(s,some a))
 | (.err e,s)=>(.err e,(s,none))
 | (.big,s)=>(.big,(s,none))
theorem r0T {α:Type} {o:Out α×St} {u:Unit} {x:St×Option α} (h:s0L o=(.ok u,x)): ∃a,x=(x.1,some a)∧o=(.ok a,x.1):=by
 obtain⟨o,s⟩:=o
 cases o<;>(unfold s0L at h;cases h)
 exact⟨_,rfl,rfl⟩
theorem p0X {α:Type} {o:Out α×St} {e:Int} {x:St×Option α} (h:s0L o=(.err e,x)):x=(x.1,none)∧o=(.err e,x.1):=by
 obtain⟨o,s⟩:=o
 cases o<;>(unfold s0L at h;cases h)
 exact⟨rfl,rfl⟩
def RSo {α:Type} (W:World) (a:Ad) (f:α→a0E):St×Option α→List a0E
 | (t,some y)=> [whole W,dkC a t.d,dkR a t.d,m0P (l0L t.d),stC a t.bits,mpC a,HL a t,f y]
 | (t,none)=>RS W a t
set_option maxRecDepth 4000 in
theorem f2U (W:World) (hW:h0L W) (a:Ad) (s:St) (b:Nat) (x:Ent) (i:Nat) (data:B) (hi:i<1000000) (hl:data.length≤1000000) (hbits:s.bits≤256) (hnb:(q0S x i data s).1≠ .big):
 a0S Tryz.prog 118 #[ptr a.core,ptr b,.int .i64 i,b0H data] (RS W a s++ [s0K b x]) (Ran fT (RSo W a (s0K b)) k0P (s0L (q0S x i data s))):=by
 have e0:q0S x i data s=a0B (i0F data) (fun r=>a0B (l0J x.root i r) fun q=>ret {x with root:=q}) s:=rfl
 simp only[List.cons_append,List.nil_append]
 refine a0C Tryz.func118 rfl Tryz.ntmps118 rfl (fun R w0=> ?_)
 simp only[a0N,List.cons_append,List.nil_append]
 refine l1E (.soft 0 (.soft 1 (.soft 2 (.soft 3 (.soft 4 (.soft 5 (.soft 6 (.soft 7 (.soft 9 (.soft 10 (.soft 11 (.soft 12 (.soft 13 (.soft 14 (.soft 15 (.soft 16 (.soft 17 (.two 8 (.hard 18 (.hard 19 (.soft 20 (.soft 21 (.hard 22 .done))))) 18 (.hard 8 (.hard 19 (.soft 20 (.soft 21 (.hard 22 .done))))))))))))))))))))))) [HLX a,mpC a] Fol.o (by kernel_rfl) (by repeat (first|with_reducible exact a0J.bp|with_reducible apply a0J.then|with_reducible apply a0J.inBlock)) (i0W gSp) ?_
 refine go 4 ?_
 refine d0D rfl (e1C Sc.o rfl gFd (fun _ _=>rfl)) ?_
 refine go 7 ?_
 refine d0D rfl (e1C Sc.o rfl gFd (fun _ _=>rfl)) ?_
 refine go 4 ?_
 refine h1J rfl rfl ?_ ?_
 ·refine a0F (b0T Sc.o rfl rfl) ?_
  refine go 1 ?_
  refine j0N (i0W gSp) ?_
  refine go 1 ?_
  refine b0F rfl Hb.o rfl (n1D W hW a s data hl hbits (by rw[e0]at hnb;exact c0R hnb)) gSp (fun r t ho=> ?_) (fun e t ho=>by(repeat (first|with_reducible refine a0G ?_|with_reducible refine a0M ?_));exact a0Y ((show s0L (q0S x i data s)=(.err e,(t,none)) by rw[e0,a0Q ho];rfl)) (fun _ _ h=>h) gSp)
  refine ns ?_
  refine go 1 ?_
  refine j0N (i0W gSp) ?_
  refine go 1 ?_
  have hb1:=k1X data s
  rw[ho]at hb1
  have hb1:t.bits=s.bits:=hb1
  have e1:=e0.trans (a0A ho)
  clear ho
  refine b0F rfl Hb.o rfl (c1O W hW a t x.root i r (by omega) hi (by rw[e1]at hnb;exact c0R hnb)) gSp (fun q t' ho=> ?_) (fun e t ho=>by(repeat (first|with_reducible refine a0G ?_|with_reducible refine a0M ?_));exact a0Y ((show s0L (q0S x i data s)=(.err e,(t,none)) by rw[e1,a0Q ho];rfl)) (fun _ _ h=>h) gSp)
  refine ns ?_
  refine go 1 ?_
  refine j0N (i0W gSp) ?_
  refine go 3 ?_
  refine d0V (cs':=b0M {x with root:=q}) Sz.o rfl rfl rfl (by rfl) rfl ?_
  refine go 1 ?_
  refine j0N (i0W gSp) ?_
  refine go 1 ?_
  exact d0X (s:=(t',some {x with root:=q})) (by rw[e1,a0A ho];rfl) rfl rfl gSp
 ·refine b0F rfl Hb.o rfl (n1D W hW a s data hl hbits (by rw[e0]at hnb;exact c0R hnb)) gSp (fun r t ho=> ?_) (fun e t ho=>by(repeat (first|with_reducible refine a0G ?_|with_reducible refine a0M ?_));exact a0Y ((show s0L (q0S x i data s)=(.err e,(t,none)) by rw[e0,a0Q ho];rfl)) (fun _ _ h=>h) gSp)
  refine ns ?_
  refine go 1 ?_
  refine j0N (i0W gSp) ?_
  refine go 1 ?_
  refine a0F (b0T Sc.o rfl rfl) ?_
  refine go 1 ?_
  refine j0N (i0W gSp) ?_
  refine go 1 ?_
  have hb1:=k1X data s
  rw[ho]at hb1
  have hb1:t.bits=s.bits:=hb1
  have e1:=e0.trans (a0A ho)
  clear ho
  refine b0F rfl Hb.o rfl (c1O W hW a t x.root i r (by omega) hi (by rw[e1]at hnb;exact c0R hnb)) gSp (fun q t' ho=> ?_) (fun e t ho=>by(repeat (first|with_reducible refine a0G ?_|with_reducible refine a0M ?_));exact a0Y ((show s0L (q0S x i data s)=(.err e,(t,none)) by rw[e1,a0Q ho];rfl)) (fun _ _ h=>h) gSp)
  refine ns ?_
  refine go 1 ?_
  refine j0N (i0W gSp) ?_
  refine go 3 ?_
  refine d0V (cs':=b0M {x with root:=q}) Sz.o rfl rfl rfl (by rfl) rfl ?_
  refine go 1 ?_
  refine j0N (i0W gSp) ?_
  refine go 1 ?_
  exact d0X (s:=(t',some {x with root:=q})) (by rw[e1,a0A ho];rfl) rfl rfl gSp
end
end Go.Proofs.Q

/- Part of the proof; no statement of its own. -/
import Derived.Test.YtpinhnikemamjaaGreatDoorB18
import Derived.Test.YtpinhnikemamjaaGreatDoorB23
import Derived.Test.YtpinhnikemamjaaGreatDoorB24
import Derived.Test.YtpinhnikemamjaaGreatDoorB26
import Derived.Test.YtpinhnikemamjaaGreatDoorB10
set_option linter.all false
set_option maxRecDepth 4000
set_option maxHeartbeats 4000000
attribute [local irreducible] Go.Sl.a0O Go.Sl.OW Go.Sl.CW Go.Sl.OS Go.Sl.OM Go.Sl.OMf Go.Sl.KM
namespace Go.Proofs.Q
open Go.Sl Go.Sb Tryz
def e1M (l:Nat) (kids:List Int):M Int:=if kids=e0F then ret 0 else a0B (g0O l kids) fun ss=>e0M (j0B l {kids:=kids,sum:=e0D l ss})
def j2G (l:Nat) (n:Nd) (at_:Nat) (to_:Int):M Int:=match l with
 |0=>a0B (g0D (n.kids.getD (b0O 0 at_).1 0)) fun _=>ret to_
 |m+1=>i0F m (n.kids.getD (b0O (m+1) at_).1 0) (b0O (m+1) at_).2 to_
def n1N (l:Nat) (n:Nd) (root:Int) (at_:Nat) (to_:Int):M Int:=a0B (u0E root l) fun _=>a0B (j2G l n at_ to_) fun r=>e1M l (n.kids.set (b0O l at_).1 r)
theorem t2T (l:Nat) (root:Int) (at_:Nat) (to_:Int):i0F l root at_ to_=a0B (Go.Sb.load root l) fun n=>a0B (i0D (g0N · l) n.kids) fun _=>n1N l n root at_ to_:=by cases l<;>rfl
theorem l1H (l:Nat): ∀ {r:List Int} {s t:St} {ss:List B},g0O l r s=(.ok ss,t)→t=s∧ss.length=r.length∧ ∀x∈ss,x.length=32
 | [],s,t,ss,h=>by cases h;exact⟨rfl,rfl,by simp⟩
 |k::r,s,t,ss,h=>by
  rw[c1D]at h
  cases hg:c1C l k s with
  |mk o u=>
   cases o with
   |ok v=>
    rw[a0A hg]at h
    cases hg2:g0O l r u with
    |mk o2 u2=>
     cases o2 with
     |ok vs=>
      rw[a0A hg2]at h
      cases h
      obtain⟨h1,h2,h3⟩:=l1H l hg2
      refine⟨h1.trans (p1T hg).1,by simp[h2],fun x hx=> ?_⟩
      rcases List.mem_cons.1 hx with hx|hx
      ·rw[hx];exact(p1T hg).2
      ·exact h3 x hx
     |err e=>rw[a0I hg2]at h;cases h
     |big=>unfold a0B at h;rw[hg2]at h;cases h
   |err e=>rw[a0I hg]at h;cases h
   |big=>unfold a0B at h;rw[hg]at h;cases h
theorem t2U {l:Nat} {x:Nd} (h:o0C x):(j0B l x).length=64:=by
 unfold j0B
 refine e1J ?_
 rw[List.length_append,List.length_append,List.length_append,h0S (k:=2) (fun a=>j0W a 2),j0W,h.n,h.sum]
 decide
theorem j2H {l:Int} {x:Nd} (h:o0C x) {i k:Nat} (hi:i<8) (hk:k=1+i):nth (ndL l x) k=some (a0J (x.kids.getD i 0)):=by
 subst hk
 have hil:i<x.kids.length:=by rw[h.n];exact hi
 rw[b1W hil]
 unfold ndL
 rw[d0Y,List.getElem?_append_right (by simp),List.length_singleton,Nat.add_sub_cancel_left,List.getElem?_append_left (by simpa using hil),List.getElem?_map,List.getElem?_eq_getElem hil];rfl
theorem j2I {l:Int} {x:Nd} (h:o0C x) {i k:Nat} {r:Int} (hi:i<8) (hk:k=1+i):(ndL l x).set k (.int .i64 r)=ndL l {x with kids:=x.kids.set i r} :=by
 subst hk
 unfold ndL
 rw[List.set_append_right _ _ (by simp),List.length_singleton,Nat.add_sub_cancel_left,List.set_append_left _ _ (by simp[h.n];exact hi),List.map_set];rfl
theorem j2J {l:Int} {x:Nd} (h:o0C x) {v:B} (hv:v.length=32):i0X (ndL l x).toArray 9 (v.map a0Q).toArray=(ndL l {x with sum:=v}).toArray:=by
 unfold i0X
 apply Array.ext'
 have hl:=p0R (l:=l) h
 simp only[Array.toList_append,Array.toList_extract,List.extract_eq_take_drop,List.drop_zero,Nat.sub_zero,List.size_toArray,List.length_map,hv,hl]
 rw[List.drop_eq_nil_of_le (by omega),List.take_nil,List.append_nil]
 unfold ndL
 rw[←List.append_assoc,List.take_left' (by simp[h.n]),←List.append_assoc]
abbrev n1O (W:World) (a:Ad) (l:Nat):Prop:= ∀(s:St) (root:Int) (at_:Nat) (to_:Int),s.bits≤256→at_<1000000→(i0F l root at_ to_ s).1≠ .big→
 a0F prog 197 #[ptr a.maps,.int .i64 root,.int .i64 l,.int .i64 at_,.int .i64 to_] (RS W a s) (Ran fT (RS W a) a0J (i0F l root at_ to_ s))
set_option maxRecDepth 8000 in
theorem p1U (W:World) (hW:h0W W) (a:Ad) (l:Nat) (hl:l<3) (hrec: ∀m,l=m+1→n1O W a m):n1O W a l:=by
 intro s root at_ to_ hbits hat hnb
 have e0:i0F l root at_ to_ s=_:=congrFun (t2T l root at_ to_) s
 have hs1:(b0O l at_).1<8:=Nat.mod_lt _ (by decide)
 have hs2:(b0O l at_).2≤at_:=Nat.mod_le _ _
 refine en func197 ntmps197 fun R w0=> ?_
 refine go 10 ?_
 refine a0X rfl Hb.o rfl (q0N W a s root l) gSp (fun x t ho=> ?_) (fun e t ho=>by refine pn ?_;exact kx ((by rw[e0];exact a0I ho)))
 refine ns ?_
 obtain⟨hts,hln⟩:=h0U ho
 rw[hts]at ho ⊢
 rw[a0A ho]at e0
 have hsz:(ndL l x).toArray.size=41:=by rw[List.size_toArray,p0R hln]
 have c1:(x.kids.map a0J).length=8:=by simp[hln.n]
 refine al fun b11=> ?_
 refine a0M Sz.o rfl rfl hsz (f1Y _ _) (by rw[hsz];exact Nat.le_refl 41) (a0N (by rw[hsz];rfl)) ?_
 refine go 6 ?_
 refine a0D (a0L Ag.o rfl (by show 0+1+8≤(ndL l x).toArray.size;rw[hsz];omega) (d0X (a:= [a0J l]) rfl c1)) ?_
 refine go 4 ?_
 refine a0V (X:= {y:Nat×St // y.1≤8∧y.2.bits=s.bits∧i0F l root at_ to_ s=a0B (i0D (g0N · l) (x.kids.drop y.1)) (fun _=>n1N l x root at_ to_) y.2}) (fun y=> [(0,ptr a.maps),(1,.int .i64 root),(2,.int .i64 l),(3,.int .i64 at_),(4,.int .i64 to_),(11,ptr b11),(21,.agg (x.kids.map a0J).toArray),(22,.int .i64 y.1.1)]) (fun y=>RS W a y.1.2++ [pts b11 (.cells (ndL l x).toArray 182 (0,0)),R]) (fun y=>8-y.1.1) ⟨(0,s),by omega,rfl,e0⟩ gSu gSp ?_
 rintro⟨⟨i,u⟩,hi,hub,he⟩ m0 hm0
 try simp only at hm0
 try dsimp only
 simp only at hi hub he
 refine ns ?_
 refine go 6 ?_
 refine a0P rfl (fun hb23=> ?_) (fun hb23=> ?_)
 ·have hi8:i<8:=by have:=of_decide_eq_true hb23;omega
  have hil:i<x.kids.length:=by rw[hln.n];exact hi8
  rw[List.drop_eq_getElem_cons hil]at he
  refine go 6 ?_
  refine a0D (p0V Tar.o Sc.o rfl rfl (by omega) (j0I a0J x.kids i _ hil (by omega))) ?_
  refine go 7 ?_
  refine a0X rfl Hb.o rfl (l1F W a u x.kids[i] l (by rw[he]at hnb;exact u1V (f:=(g0N · l)) (c0I hnb))) gSp (fun b' t' ho=> ?_) (fun e t ho=>by refine pn ?_;exact kx ((by rw[he];exact a0I (u1U (f:=(g0N · l)) ho))))
  refine ns ?_
  refine go 6 ?_
  exact rd idh (⟨(i+1,t'),hi8,(by have:=i1R x.kids[i] l u;rw[ho]at this;exact this.trans hub),by rw[he];unfold a0B;rw[a2O (f:=(g0N · l)) ho]⟩)
 ·obtain rfl:i=8:=by have:=of_decide_eq_false hb23;omega
  have he1:i0F l root at_ to_ s=n1N l x root at_ to_ u:=by rw[he,List.drop_eq_nil_of_le (by rw[hln.n];exact Nat.le_refl _)];rfl
  clear he
  refine go 7 ?_
  refine a0X rfl Hb.o rfl (e1L W a l (by omega) u root (by omega) (by rw[he1]at hnb;exact c0I hnb)) gSp (fun b t0 ho=> ?_) (fun e t ho=>by refine pn ?_;exact kx ((by rw[he1];exact a0I ho)))
  refine ns ?_
  refine go 3 ?_
  have htb:t0.bits=s.bits:=by have:=x0W (l+1) root u;rw[show g0E (l+1) root u=_ from ho]at this;exact this.trans hub
  have he2:i0F l root at_ to_ s=a0B (j2G l x at_ to_) (fun r=>e1M l (x.kids.set (b0O l at_).1 r)) t0:=by rw[he1];exact a0A ho
  refine cg 3 (p1I l at_ hl hat) ?_
  refine go 7 ?_
  refine i0P (X:= {y:Int×St // y.2.bits=s.bits∧i0F l root at_ to_ s=e1M l (x.kids.set (b0O l at_).1 y.1) y.2}) (fun y=> [(0,ptr a.maps),(2,.int .i64 l),(11,ptr b11)]) (fun y=>RS W a y.1.2++ [pts b11 (.cells (ndL l {x with kids:=x.kids.set (b0O l at_).1 y.1.1}).toArray 182 (0,0)),R]) ?_ ?_
  ·refine go 6 ?_
   refine a0P rfl (fun hb41=> ?_) (fun hb41=> ?_)
   ·obtain rfl:l=0:=by have h:=hb41;simp only[beq_iff_eq]at h;omega
    refine go 1 ?_
    refine tl 8 ?_
    refine go 7 ?_
    refine b0X (b0M Sc.o rfl (j2H hln hs1 (by omega))) ?_
    refine go 1 ?_
    refine a0X rfl Hb.o rfl (b1Z W a t0 (x.kids.getD (b0O 0 at_).1 0) (by omega) (by rw[he2]at hnb;exact c0I (c0I hnb))) gSp (fun b' t' ho=> ?_) (fun e t ho=>by refine pn ?_;exact kx ((by rw[he2];exact a0I (show a0B (g0D (x.kids.getD (b0O 0 at_).1 0)) (fun _=>ret to_) t0=_ from a0I ho))))
    refine ns ?_
    refine go 7 ?_
    refine d0P Sz.o rfl rfl rfl (by rw[p0R hln,Nat.blt_eq];omega) (j2I hln hs1 (by omega)) ?_
    refine go 1 ?_
    exact me idh (⟨(to_,t'),(by have:=c1B (x.kids.getD (b0O 0 at_).1 0) t0;rw[ho]at this;exact this.trans htb),by rw[he2];exact a0A (show a0B (g0D (x.kids.getD (b0O 0 at_).1 0)) (fun _=>ret to_) t0=(.ok to_,t') by rw[a0A ho];rfl)⟩)
   ·obtain⟨m,hm⟩: ∃m,l=m+1:=⟨l-1,by have h:=hb41;simp only[beq_eq_false_iff_ne]at h;omega⟩
    refine go 6 ?_
    refine a0D (b0M Sc.o rfl (j2H hln hs1 (by omega))) ?_
    refine go 2 ?_
    rw[show(l:Int)-1=(m:Int) by omega]
    refine go 2 ?_
    refine a0X rfl Hb.o rfl (hrec m hm t0 (x.kids.getD (b0O l at_).1 0) (b0O l at_).2 to_ (by omega) (by omega) (by subst hm;rw[he2]at hnb;exact c0I hnb)) gSp (fun r t' ho=> ?_) (fun e t ho=>by refine pn ?_;exact kx ((by subst hm;rw[he2];exact a0I ho)))
    refine ns ?_
    refine go 2 ?_
    refine d0P Sz.o rfl rfl rfl (by rw[p0R hln,Nat.blt_eq];omega) (j2I hln hs1 (by omega)) ?_
    refine go 1 ?_
    exact me idh (⟨(r,t'),(by have:=n1J m (x.kids.getD (b0O l at_).1 0) (b0O l at_).2 to_ t0;rw[ho]at this;exact this.trans htb),by subst hm;rw[he2];exact a0A ho⟩)
  rintro⟨⟨r,v⟩,hvb,he3⟩
  dsimp only at hvb he3 ⊢
  refine ns ?_
  generalize hk:x.kids.set (b0O l at_).1 r=kids at he3 ⊢
  have hkl:kids.length=8:=by rw[←hk,List.length_set,hln.n]
  have hn2:o0C {x with kids:=kids} :=⟨hkl,hln.sum⟩
  have hsz2:(ndL l {x with kids:=kids}).toArray.size=41:=by rw[List.size_toArray,p0R hn2]
  refine go 3 ?_
  refine a0D (a0L Ag.o rfl (by rw[hsz2];omega) (a0G hsz2)) ?_
  refine cg 0 (d2T l {x with kids:=kids} hn2) ?_
  refine go 2 ?_
  refine a0P rfl (fun hb69=> ?_) (fun hb69=> ?_)
  ·refine go 5 ?_
   exact rR idh (by rw[he3];unfold e1M;rw[if_pos (of_decide_eq_true hb69)];rfl)
  ·have he4:i0F l root at_ to_ s=a0B (g0O l kids) (fun ss=>e0M (j0B l {kids:=kids,sum:=e0D l ss})) v:=by rw[he3];unfold e1M;rw[if_neg (of_decide_eq_false hb69)]
   refine go 6 ?_
   refine a0D (a0L Ag.o rfl (by rw[hsz2];omega) (a0G hsz2)) ?_
   refine a0X rfl Hb.o rfl (e2I W a v l (by omega) {x with kids:=kids} hn2) gSp (fun ss t' ho=> ?_) (fun e t ho=>by refine pn ?_;exact kx ((by rw[he4];exact a0I ho)))
   refine ns ?_
   obtain⟨htv,hsl,hs32⟩:=l1H l ho
   rw[htv]at ho ⊢
   rw[a0A ho]at he4
   have hdl:=s0W l ss
   have hds:((e0D l ss).map a0Q).toArray.size=32:=by rw[List.size_toArray,List.length_map,hdl]
   have hn3:o0C {kids:=kids,sum:=e0D l ss} :=⟨hkl,hdl⟩
   have hsz3:(ndL l {kids:=kids,sum:=e0D l ss}).toArray.size=41:=by rw[List.size_toArray,p0R hn3]
   refine cg 0 (x1T W hW l (by omega) ss (by rw[hsl];exact hkl) hs32) ?_
   refine go 1 ?_
   refine a0M Sz.o rfl rfl hds (fun x hx=>by simp at hx;obtain⟨_,_,rfl⟩:=hx;rfl) (by rw[hds,hsz2];omega) (j2J hn2 hdl) ?_
   refine go 3 ?_
   refine mx (.r 0 5 (.hard 5 (.hard 6 (.soft 7 .done)))) [mpC a,pts b11 (.cells (ndL l {kids:=kids,sum:=e0D l ss}).toArray 182 (0,0))] ?_
   refine go 4 ?_
   refine c0V rfl (a0L Ag.o rfl (by rw[hsz3];omega) (a0G hsz3)) ?_
   refine cg 1 (u1H l {kids:=kids,sum:=e0D l ss} hn3) ?_
   refine go 3 ?_
   refine a0X rfl Hb.o rfl (p1A W a v (j0B l {kids:=kids,sum:=e0D l ss}) (by rw[t2U hn3];omega) (by rw[he4]at hnb;exact hnb)) gSp (fun z z' ho=> ?_) (fun e t ho=>by refine pn ?_;exact kx ((by rw[he4];exact ho)))
   refine ns ?_
   refine go 5 ?_
   exact rR idh (he4.trans ho)
theorem u1Z (W:World) (hW:h0W W) (a:Ad): ∀l,l<3→n1O W a l
 |0,h=>p1U W hW a 0 h (fun m e=>by omega)
 |l+1,h=>p1U W hW a (l+1) h (fun m e=>by have e':m=l:=(Nat.succ.inj e).symm;rw[e'];exact u1Z W hW a l (by omega))
def e2J (n:Nat) (root:Int) (at_:Nat):M Int:=match n with
 |0=>ret root
 |l+1=>k0S l root at_
theorem a2R (l:Nat) (root:Int) (at_:Nat):e2J (l+1) root at_=a0B (Go.Sb.load root l) fun n=>e2J l (n.kids.getD (b0O l at_).1 0) (b0O l at_).2:=by cases l<;>rfl
theorem a2S: ∀(n:Nat) {root:Int} {at_:Nat} {s t:St} {x:Int},e2J n root at_ s=(.ok x,t)→t=s
 |0,root,at_,s,t,x,h=>by cases h;rfl
 |l+1,root,at_,s,t,x,h=>by
  rw[a2R]at h
  cases hg:Go.Sb.load root l s with
  |mk o u=>
   cases o with
   |ok v=>rw[a0A hg]at h;exact(a2S l h).trans (h0U hg).1
   |err e=>rw[a0I hg]at h;cases h
   |big=>unfold a0B at h;rw[hg]at h;cases h
theorem i1W {l:Int} {x:Nd} (h:o0C x):(ndL l x).toArray.extract 1 (1+8)=(x.kids.map a0J).toArray:=d0X (a:= [a0J l]) rfl (by simp[h.n])
set_option maxRecDepth 4000 in
theorem p1V (W:World) (a:Ad) (s:St) (root:Int) (at_:Nat) (hat:at_<1000000):a0F prog 115 #[ptr a.maps,.int .i64 root,.int .i64 at_] (RS W a s) (Ran fT (RS W a) a0J (k0S 2 root at_ s)):=by
 refine en func115 ntmps115 fun R w0=> ?_
 refine go 12 ?_
 refine a0V (X:= {y:Nat×Int×Nat // y.1≤3∧y.2.2<1000000∧k0S 2 root at_ s=e2J y.1 y.2.1 y.2.2 s}) (fun y=> [(0,ptr a.maps),(1,.int .i64 y.1.2.1),(2,.int .i64 y.1.2.2),(7,.int .i64 ((y.1.1:Int)-1))]) (fun y=>RS W a s++ [R]) (fun y=>y.1.1) ⟨(3,root,at_),by omega,hat,rfl⟩ gSu gSp ?_
 rintro⟨⟨n,r,k⟩,hi,hk,he⟩ m0 hm0
 try simp only at hm0
 try dsimp only
 simp only at hi hk he
 refine ns ?_
 refine go 7 ?_
 refine a0P rfl (fun hb11=> ?_) (fun hb11=> ?_)
 ·obtain⟨l,rfl⟩: ∃l,n=l+1:=⟨n-1,by have:=of_decide_eq_true hb11;omega⟩
  rw[a2R]at he
  rw[show((l+1:Nat):Int)-1=(l:Int) by omega]
  have hs1:(b0O l k).1<8:=Nat.mod_lt _ (by decide)
  have hs2:(b0O l k).2≤k:=Nat.mod_le _ _
  refine cg 8 (p1I l k (by omega) hk) ?_
  refine go 11 ?_
  refine a0X rfl Hb.o rfl (q0N W a s r l) gSp (fun x t ho=> ?_) (fun e t ho=>by refine pn ?_;exact kx ((by rw[he];exact a0I ho)))
  refine ns ?_
  obtain⟨hts,hln⟩:=h0U ho
  rw[hts]at ho ⊢
  rw[a0A ho]at he
  have hil:(b0O l k).1<x.kids.length:=by rw[hln.n];exact hs1
  refine a0D (o0Q (v:=(x.kids.map a0J).toArray) F.fa182_1 rfl (i1W hln)) ?_
  refine go 1 ?_
  refine a0D (p0V Tar.o Sc.o rfl rfl (by omega) (j0I a0J x.kids (b0O l k).1 _ hil (by omega))) ?_
  rw[←b1W hil]
  refine go 10 ?_
  exact rd idh (⟨(l,x.kids.getD (b0O l k).1 0,(b0O l k).2),by(show l≤3);omega,by(show(b0O l k).2<1000000);omega,he⟩)
 ·obtain rfl:n=0:=by have:=of_decide_eq_false hb11;omega
  refine go 8 ?_
  exact rR idh he
theorem e1N (W:World) (hW:h0W W) (a:Ad) (s:St) (root:Int) (at_:Nat) (to_:Int) (hbits:s.bits≤256) (hat:at_<1000000) (hnb:(l0P root at_ to_ s).1≠ .big):a0F prog 163 #[ptr a.maps,.int .i64 root,.int .i64 at_,.int .i64 to_] (RS W a s) (Ran fT (RS W a) a0J (l0P root at_ to_ s)):=by
 have e0:l0P root at_ to_ s=a0B (k0S 2 root at_) (fun x=>if x=to_ then a0B (g0D to_) fun _=>ret root else i0F 2 root at_ to_) s:=rfl
 refine en func163 ntmps163 fun R w0=> ?_
 refine go 11 ?_
 refine a0X rfl Hb.o rfl (p1V W a s root at_ hat) gSp (fun x t ho=> ?_) (fun e t ho=>by refine pn ?_;exact kx ((by rw[e0];exact a0I ho)))
 refine ns ?_
 have hts:=a2S 3 ho
 rw[hts]at ho ⊢
 rw[a0A ho]at e0
 refine go 4 ?_
 refine a0P rfl (fun hb14=> ?_) (fun hb14=> ?_)
 ·have hx:x=to_:=by have h:=hb14;simp only[beq_iff_eq]at h;exact h
  rw[if_pos hx]at e0
  refine go 7 ?_
  refine a0X rfl Hb.o rfl (b1Z W a s to_ hbits (by rw[e0]at hnb;exact c0I hnb)) gSp (fun b t ho=> ?_) (fun e t ho=>by refine pn ?_;exact kx ((by rw[e0];exact a0I ho)))
  refine ns ?_
  refine go 8 ?_
  exact rR idh (e0.trans (a0A ho))
 ·have hx: ¬x=to_:=by have h:=hb14;simp only[beq_eq_false_iff_ne]at h;exact h
  rw[if_neg hx]at e0
  refine go 8 ?_
  refine a0X rfl Hb.o rfl (u1Z W hW a 2 (by omega) s root at_ to_ hbits hat (by rw[e0]at hnb;exact hnb)) gSp (fun r t ho=> ?_) (fun e t ho=>by refine pn ?_;exact kx ((by rw[e0];exact ho)))
  refine ns ?_
  refine go 3 ?_
  exact rR idh (e0.trans ho)
section
def RO {α:Type} (m:M α):Prop:= ∀s,(m s).2=s
theorem p0S {α β:Type} {m:M α} {f:α→M β} (h:RO m) (hf: ∀a,RO (f a)):RO (a0B m f):=fun s=>by
 unfold a0B
 have h1:=h s
 cases e:m s with
 |mk o t=>
  rw[e]at h1
  cases o with
  |ok a=>exact(hf a t).trans h1
  |err e=>exact h1
  |big=>exact h1
theorem t0G {α:Type} (a:α):RO (ret a:M α):=fun _=>rfl
theorem f1Z {α:Type} {p:Prop} [Decidable p] {m n:M α} (h:RO m) (h':RO n):RO (if p then m else n):=by split<;>assumption
theorem g1A (at_:Int):RO (h0P at_):=fun s=>by unfold h0P;split<;>rfl
theorem a2T (a:Int) (l:Nat):RO (Go.Sb.load a l):=f1Z (t0G _) (p0S (g1A a) fun _=>fun _=>rfl)
theorem a1B: ∀l root at_,RO (k0S l root at_)
 |0,root,at_=>by unfold k0S;exact p0S (a2T _ _) fun _=>t0G _
 |l+1,root,at_=>by unfold k0S;exact p0S (a2T _ _) fun _=>a1B l _ _
theorem e1O (x:Hd): ∀n,RO (f0N x n)
 |0=>t0G _
 |n+1=>by
  unfold f0N
  exact p0S (f1Z (p0S (g1A _) fun _=>f1Z (fun _=>rfl) (t0G _)) (t0G _)) fun _=>p0S (e1O x n) fun _=>t0G _
theorem a2U (a:Int):RO (k0R a):=f1Z (t0G _) (p0S (p0S (g1A a) fun _=>fun _=>rfl) fun x=>e1O x 4)
theorem n1P (x:Ent) (i:Nat):RO (o0U x i):=p0S (a1B _ _ _) a2U
theorem v1A {W:World} {a:Ad} {α:Type} {val:α→Value} {s:St} {o:Out α×St} {e:Ending} {L:List a0C} (h:o.2=s):Ran fT (fun _:St=>RS W a s) val o e L↔Ran fT (RS W a) val o e L:=by
 obtain⟨o,t⟩:=o
 have h:t=s:=h
 subst h
 cases o<;>exact Iff.rfl
section
variable {c:Cx} {d:Option Tmp} {ty:TypeId} {pos:String} {af:Array Edge} {g:Option (Nat×Bool)} {env:List (Nat×Value)} {L M:List a0C} {a:Ad} {s:St}
theorem a2V {w:World} (h:Sat w (HL a s::M)): ∃M',Sat w (r0Q a s.next s.epoch::M'):=by
 obtain⟨x,hs⟩:=g0X.1 h
 have h1:=b0J.1 hs
 simp only[hlV,d0M,List.cons_append,List.nil_append]at h1
 exact⟨_,(show Fnd _ (r0Q a s.next s.epoch) _ from gFd).sat h1⟩
theorem j0K {x:Operand} {t:TypeId} {k:Nat} {v:Value} (ht:f0R c.P t=true) (hx:evo env x=some (.pointer (some ⟨a.core,k,none⟩))) (hL:Fnd L (HL a s) M) (hv:nth (o0J a s.next s.epoch) k=some v):
 Sl.a0O c ⟨d,.load t x,ty,pos,af,g⟩ env L v:=
 z0K ht hx hL fun w L' hs=>by
  obtain⟨M',h1⟩:=a2V hs
  have h2:=h1.pts
  rw[d0Y]at hv
  simp[World.cell?,h2,hv]
def HLX (a:Ad):a0C:=ex fun s:St=>HL a s
theorem a1C {x:Operand} {t:TypeId} {k:Nat} {v:Value} (ht:f0R c.P t=true) (hx:evo env x=some (.pointer (some ⟨a.core,k,none⟩))) (hL:Fnd L (HLX a) M) (hv: ∀n e,nth (o0J a n e) k=some v):
 Sl.a0O c ⟨d,.load t x,ty,pos,af,g⟩ env L v:=
 z0K ht hx hL fun w L' hs=>by
  obtain⟨s,hs⟩:=g0X.1 hs
  obtain⟨M',h1⟩:=a2V hs
  have h2:=h1.pts
  have hv:=hv s.next s.epoch
  rw[d0Y]at hv
  simp[World.cell?,h2,hv]
theorem h0M {K R:List a0C} (hK:a0Z L (HL a s::K) R) (w:World) (h:Sat w L):Sat w (HLX a::K):=by
 have h1:=(h.perm hK).perm List.perm_append_comm
 exact g0X.2 ⟨s,h1.drop⟩
end
abbrev r0Y (b:Nat) (x:Ent):a0C:=pts b (.cells (h0L x).toArray 50 (0,0))
theorem e1P (W:World) (a:Ad) (s:St) (id:Int):a0F prog 15 #[ptr a.core,.int .u32 id] [HL a s] (a0T (.tuple #[d0Z ((a0E id s.vols).getD h0T),.int .i64 (if(a0E id s.vols).isSome then 0 else 5)]) [HL a s]):=by
 cases hm:a0E id s.vols with
 |none=>
  refine en func15 ntmps15 fun R w0=> ?_
  refine e0J gFd fun by_ gv gc o hg hok=> ?_
  simp only[d0M,o0J,List.cons_append,List.nil_append]
  refine go 2 ?_
  refine al fun b4=> ?_
  refine go 10 ?_
  refine a0D (p0J (ek:=e0H) (ev:=d0Z) (k:=id) d0I.o b1P (tt fun _=>trivial) trivial Zr.o rfl rfl gFd d1V) ?_
  refine go 1 ?_
  rw[hm]
  refine go 2 ?_
  refine al fun b6=> ?_
  refine go 19 ?_
  refine b0V (d0A hg hok gSp) (p0Y idh (RV.agg Ag.o rfl (by simp[Value.cells,h0L]) (a0G (by simp[Value.cells,h0L])) (RV.tmp rfl RV.nil)) rfl gSp)
 |some x=>
  refine en func15 ntmps15 fun R w0=> ?_
  refine e0J gFd fun by_ gv gc o hg hok=> ?_
  simp only[d0M,o0J,List.cons_append,List.nil_append]
  refine go 2 ?_
  refine al fun b4=> ?_
  refine go 10 ?_
  refine a0D (p0J (ek:=e0H) (ev:=d0Z) (k:=id) d0I.o b1P (tt fun _=>trivial) trivial Zr.o rfl rfl gFd d1V) ?_
  refine go 1 ?_
  rw[hm]
  refine go 2 ?_
  refine al fun b6=> ?_
  refine go 21 ?_
  refine b0V (d0A hg hok gSp) (p0Y idh (RV.agg Ag.o rfl (by simp[Value.cells,h0L]) (a0G (by simp[Value.cells,h0L])) (RV.tmp rfl RV.nil)) rfl gSp)
end
theorem j2K {s:St} {id:Int} {x:Ent} (h:a0E id s.vols=some x):find id s=(.ok x,s):=by unfold find;rw[h]
theorem j2L {s:St} {id:Int} (h:a0E id s.vols=none):find id s=(.err 5,s):=by unfold find;rw[h]
theorem u0X (W:World) (a:Ad) (s:St) (id:Int):a0F prog 53 #[ptr a.core,.int .u32 id] (RS W a s) (Ran fT (RS W a) d0Z (find id s)):=by
 have hi:=e1P W a s id
 cases hm:a0E id s.vols with
 |none=>
  rw[hm]at hi
  rw[j2L hm]
  refine en func53 ntmps53 fun R w0=> ?_
  refine go 2 ?_
  refine al fun b4=> ?_
  refine cg 6 (hi) ?_
  refine go 3 ?_
  refine al fun b5=> ?_
  refine go 14 ?_
  refine c0G rfl Hb.o rfl (c0S 5) gSp ?_
  refine ns ?_
  refine pn ?_
  exact b0W rfl idh gSp
 |some x=>
  rw[hm]at hi
  rw[j2K hm]
  refine en func53 ntmps53 fun R w0=> ?_
  refine go 2 ?_
  refine al fun b4=> ?_
  refine cg 6 (hi) ?_
  refine go 3 ?_
  refine al fun b5=> ?_
  refine go 20 ?_
  exact j0R rfl idh (RV.agg Ag.o rfl (by simp[Value.cells,h0L]) (a0G (by simp[Value.cells,h0L])) RV.nil) rfl gSp
theorem c1F (W:World) (a:Ad) (s:St) (id:Int):a0F prog 66 #[ptr a.core,.int .u32 id] (RS W a s) (Ran fT (RS W a) d0Z (l0H id s)):=by
 have e0:l0H id s=a0B (find id) (fun x=>if x.only then n0Q 7 else ret x) s:=rfl
 refine en func66 ntmps66 fun R w0=> ?_
 refine go 2 ?_
 refine al fun b4=> ?_
 refine go 6 ?_
 refine a0X rfl Hb.o rfl (u0X W a s id) gSp (fun x t ho=> ?_) (fun e t ho=>by refine pn ?_;exact kx ((by rw[e0];exact a0I ho)))
 refine ns ?_
 rw[a0A ho]at e0
 refine al fun b5=> ?_
 refine go 10 ?_
 refine a0P rfl (fun hb10=> ?_) (fun hb10=> ?_)
 ·refine go 1 ?_
  refine c0G rfl Hb.o rfl (c0S 7) gSp ?_
  refine ns ?_
  refine pn ?_
  exact b0W (by rw[e0,if_pos hb10];rfl) idh gSp
 ·have hof: ¬(x.only=true):=by rw[hb10];simp
  refine go 8 ?_
  exact j0R (by rw[e0,if_neg hof];rfl) idh (RV.agg Ag.o rfl (by simp[Value.cells,h0L]) (a0G (by simp[Value.cells,h0L])) RV.nil) rfl gSp
theorem x1X {s:St} {k:Int} {v:Ent} (h:(s0D k v s).1≠ .big):s.log.length<1000000000:=t0E h fun h'=>by simp[s0D,a0B,back,h']
theorem e2K {s:St} (k:Int) (v:Ent) (h:s.log.length<1000000000):s0D k v s=(.ok (),{s with log:=bk s.depth s.log (.vols k (a0E k s.vols)),vols:=b0T k v s.vols}):=by
 simp[s0D,a0B,back,show ¬1000000000≤s.log.length by omega]
theorem u0Y (W:World) (a:Ad) (s:St) (x:Ent) (hnb:(l0Q x s).1≠ .big):a0F prog 69 #[ptr a.core,d0Z x] (RS W a s) (Ran fT (RS W a) k0I (l0Q x s)):=by
 have hn:=x1X hnb
 rw[show l0Q x s=_ from e2K x.id x hn]
 refine en func69 ntmps69 fun R w0=> ?_
 try simp only[d0Z]
 refine e0J gFd fun by_ gv gc o hg hok=> ?_
 simp only[d0M,o0J,c0Y,List.cons_append,List.nil_append]
 refine go 2 ?_
 refine bx fun b3=> ?_
 refine go 2 ?_
 refine tl 14 ?_
 refine ce 15 (x1H a by_ o s.log s.depth s.vols x.id x hn) ?_
 rintro e _
 refine ns ?_
 refine go 1 ?_
 refine b0G (d0A (s:= {s with log:=bk s.depth s.log (.vols x.id (a0E x.id s.vols)),vols:=b0T x.id x s.vols}) hg hok gSp) (w0D rfl rfl rfl gSp)
theorem z0G (W:World) (a:Ad) (s:St) (x:Ent) (at_ n:Int) (hnb:(g0S x at_ n s).1≠ .big):a0F prog 59 #[d0Z x,.int .i64 at_,.int .i64 n] (RS W a s) (Ran fT (RS W a) k0I (g0S x at_ n s)):=by
 have hs: ¬5000<x.size:=fun h=>hnb (by unfold g0S;rw[if_pos h])
 have e0:g0S x at_ n s=l0E x at_ n s:=by unfold g0S;rw[if_neg hs]
 rw[e0]
 by_cases h1:at_<0
 ·rw[show l0E x at_ n s=(.err 6,s) by unfold l0E;rw[if_pos (.inl h1)];rfl]
  refine en func59 ntmps59 fun R w0=> ?_
  try simp only[d0Z]
  refine go 2 ?_
  refine bx fun b3=> ?_
  refine go 28 ?_
  refine c0G rfl Hb.o rfl (c0S 6) gSp ?_
  refine ns ?_
  refine pn ?_
  exact b0W rfl idh gSp
 ·by_cases h2:n<0
  ·rw[show l0E x at_ n s=(.err 6,s) by unfold l0E;rw[if_pos (.inr (.inl h2))];rfl]
   refine en func59 ntmps59 fun R w0=> ?_
   try simp only[d0Z]
   refine go 2 ?_
   refine bx fun b3=> ?_
   refine go 28 ?_
   refine c0G rfl Hb.o rfl (c0S 6) gSp ?_
   refine ns ?_
   refine pn ?_
   exact b0W rfl idh gSp
  ·by_cases h3:x.size<at_
   ·rw[show l0E x at_ n s=(.err 6,s) by unfold l0E;rw[if_pos (.inr (.inr (.inl h3)))];rfl]
    refine en func59 ntmps59 fun R w0=> ?_
    try simp only[d0Z]
    refine go 2 ?_
    refine bx fun b3=> ?_
    refine go 28 ?_
    refine c0G rfl Hb.o rfl (c0S 6) gSp ?_
    refine ns ?_
    refine pn ?_
    exact b0W rfl idh gSp
   ·by_cases h4:x.size-at_<n
    ·rw[show l0E x at_ n s=(.err 6,s) by unfold l0E;rw[if_pos (.inr (.inr (.inr h4)))];rfl]
     refine en func59 ntmps59 fun R w0=> ?_
     try simp only[d0Z]
     refine go 2 ?_
     refine bx fun b3=> ?_
     refine go 28 ?_
     refine c0G rfl Hb.o rfl (c0S 6) gSp ?_
     refine ns ?_
     refine pn ?_
     exact b0W rfl idh gSp
    ·rw[show l0E x at_ n s=(.ok (),s) by unfold l0E;rw[if_neg (by omega)];rfl]
     refine en func59 ntmps59 fun R w0=> ?_
     try simp only[d0Z]
     refine go 2 ?_
     refine bx fun b3=> ?_
     refine go 28 ?_
     exact fR rfl
theorem w2G (W:World) (a:Ad) (s:St) (root:Int) (at_:Nat) (hat:at_<1000000):a0F prog 115 #[ptr a.maps,.int .i64 root,.int .i64 at_] (RS W a s) (Ran fT (fun _:St=>RS W a s) a0J (k0S 2 root at_ s)):=
 a0F.mono_ran (p1V W a s root at_ hat) (fun e L h=>(v1A (a1B 2 root at_ s)).2 h)
theorem w2H (W:World) (a:Ad) (s:St) (at_:Int):a0F prog 114 #[ptr a.st,.int .i64 at_] (RS W a s) (Ran fT (fun _:St=>RS W a s) b0B (k0R at_ s)):=
 a0F.mono_ran (p1P W a s at_) (fun e L h=>(v1A (a2U at_ s)).2 h)
theorem j2M (W:World) (a:Ad) (s:St) (x:Ent) (i:Nat) (hi:i<1000000):a0F prog 61 #[ptr a.core,d0Z x,.int .i64 i] (RS W a s) (Ran fT (fun _:St=>RS W a s) b0B (o0U x i s)):=by
 have e0:o0U x i s=a0B (k0S 2 x.root i) k0R s:=rfl
 refine en func61 ntmps61 fun R w0=> ?_
 try simp only[d0Z]
 refine go 2 ?_
 refine bx fun b4=> ?_
 refine go 4 ?_
 refine mx (.r 0 14 (.hard 14 (.hard 15 (.soft 16 .done)))) [HL a s,mpC a,r0Y b4 x] ?_
 refine go 3 ?_
 refine c0V rfl (j0K Sc.o rfl gFd rfl) ?_
 refine go 6 ?_
 refine c0V rfl (j0K Sc.o rfl gFd rfl) ?_
 refine go 4 ?_
 refine a0X rfl Hb.o rfl (w2G W a s x.root i hi) gSp (fun r t ho=> ?_) (fun e t ho=>by refine pn ?_;exact kx ((by rw[e0];exact a0I ho)))
 refine ns ?_
 refine go 3 ?_
 have hq:=ho
 rw[show t=s by have:=a1B 2 x.root i s;rw[ho]at this;exact this]at hq
 refine a0X rfl Hb.o rfl (w2H W a s r) gSp (fun b t' ho=> ?_) (fun e t ho=>by refine pn ?_;exact kx ((by rw[e0,a0A hq];exact ho)))
 refine ns ?_
 refine go 5 ?_
 exact rR idh (by rw[e0,a0A hq];exact ho)
theorem j2N (W:World) (a:Ad) (s:St) (x:Ent) (i:Nat) (hi:i<1000000):a0F prog 61 #[ptr a.core,d0Z x,.int .i64 i] (RS W a s) (Ran fT (RS W a) b0B (o0U x i s)):=
 a0F.mono_ran (j2M W a s x i hi) (fun e L h=>(v1A (n1P x i s)).1 h)
def t0H {α:Type} (o:Out α×St):Out Unit×(St×Option α):=match o with
 | (.ok a,s)=>(.ok (),(s,some a))
 | (.err e,s)=>(.err e,(s,none))
 | (.big,s)=>(.big,(s,none))
theorem s0L {α:Type} {o:Out α×St} {u:Unit} {x:St×Option α} (h:t0H o=(.ok u,x)): ∃a,x=(x.1,some a)∧o=(.ok a,x.1):=by
 obtain⟨o,s⟩:=o
 cases o<;>(unfold t0H at h;cases h)
 exact⟨_,rfl,rfl⟩
theorem q0O {α:Type} {o:Out α×St} {e:Int} {x:St×Option α} (h:t0H o=(.err e,x)):x=(x.1,none)∧o=(.err e,x.1):=by
 obtain⟨o,s⟩:=o
 cases o<;>(unfold t0H at h;cases h)
 exact⟨rfl,rfl⟩
def RSo {α:Type} (W:World) (a:Ad) (f:α→a0C):St×Option α→List a0C
 | (t,some y)=> [whole W,dkC a t.d,dkR a t.d,m0K (l0R t.d),stC a t.bits,mpC a,HL a t,f y]
 | (t,none)=>RS W a t
set_option maxRecDepth 4000 in
theorem j2O (W:World) (hW:h0W W) (a:Ad) (s:St) (b:Nat) (x:Ent) (i:Nat) (data:B) (hi:i<1000000) (hl:data.length≤1000000) (hbits:s.bits≤256) (hnb:(r0K x i data s).1≠ .big):
 a0F prog 118 #[ptr a.core,ptr b,.int .i64 i,b0B data] (RS W a s++ [r0Y b x]) (Ran fT (RSo W a (r0Y b)) k0I (t0H (r0K x i data s))):=by
 have e0:r0K x i data s=a0B (i0Q data) (fun r=>a0B (l0P x.root i r) fun q=>ret {x with root:=q}) s:=rfl
 refine ns ?_
 refine en func118 ntmps118 fun R w0=> ?_
 refine f1J (.soft 0 (.soft 1 (.soft 2 (.soft 3 (.soft 4 (.soft 5 (.soft 6 (.soft 7 (.soft 9 (.soft 10 (.soft 11 (.soft 12 (.soft 13 (.soft 14 (.soft 15 (.soft 16 (.soft 17 (.two 8 (.hard 18 (.hard 19 (.soft 20 (.soft 21 (.hard 22 .done))))) 18 (.hard 8 (.hard 19 (.soft 20 (.soft 21 (.hard 22 .done))))))))))))))))))))))) [HLX a,mpC a] Fol.o (by kernel_rfl) (by repeat (first|with_reducible exact b0S.bp|with_reducible apply b0S.then|with_reducible apply b0S.inBlock)) (h0M gSp) ?_
 refine go 4 ?_
 refine c0V rfl (a1C Sc.o rfl gFd (fun _ _=>rfl)) ?_
 refine go 7 ?_
 refine c0V rfl (a1C Sc.o rfl gFd (fun _ _=>rfl)) ?_
 refine go 4 ?_
 refine q0A rfl rfl ?_ ?_
 ·refine a0D (b0M Sc.o rfl rfl) ?_
  refine go 1 ?_
  refine i0R (h0M gSp) ?_
  refine go 1 ?_
  refine a0X rfl Hb.o rfl (p1R W hW a s data hl hbits (by rw[e0]at hnb;exact c0I hnb)) gSp (fun r t ho=> ?_) (fun e t ho=>by refine pn ?_;exact kx ((show t0H (r0K x i data s)=(.err e,(t,none)) by rw[e0,a0I ho];rfl)))
  refine ns ?_
  refine go 1 ?_
  refine i0R (h0M gSp) ?_
  refine go 1 ?_
  have hb1:=n1I data s
  rw[ho]at hb1
  have hb1:t.bits=s.bits:=hb1
  have e1:=e0.trans (a0A ho)
  clear ho
  refine a0X rfl Hb.o rfl (e1N W hW a t x.root i r (by omega) hi (by rw[e1]at hnb;exact c0I hnb)) gSp (fun q t' ho=> ?_) (fun e t ho=>by refine pn ?_;exact kx ((show t0H (r0K x i data s)=(.err e,(t,none)) by rw[e1,a0I ho];rfl)))
  refine ns ?_
  refine go 1 ?_
  refine i0R (h0M gSp) ?_
  refine go 3 ?_
  refine d0P (cs':=h0L {x with root:=q}) Sz.o rfl rfl rfl (by rfl) rfl ?_
  refine go 1 ?_
  refine i0R (h0M gSp) ?_
  refine go 1 ?_
  exact fR (s:=(t',some {x with root:=q})) (by rw[e1,a0A ho];rfl)
 ·refine a0X rfl Hb.o rfl (p1R W hW a s data hl hbits (by rw[e0]at hnb;exact c0I hnb)) gSp (fun r t ho=> ?_) (fun e t ho=>by refine pn ?_;exact kx ((show t0H (r0K x i data s)=(.err e,(t,none)) by rw[e0,a0I ho];rfl)))
  refine ns ?_
  refine go 1 ?_
  refine i0R (h0M gSp) ?_
  refine go 1 ?_
  refine a0D (b0M Sc.o rfl rfl) ?_
  refine go 1 ?_
  refine i0R (h0M gSp) ?_
  refine go 1 ?_
  have hb1:=n1I data s
  rw[ho]at hb1
  have hb1:t.bits=s.bits:=hb1
  have e1:=e0.trans (a0A ho)
  clear ho
  refine a0X rfl Hb.o rfl (e1N W hW a t x.root i r (by omega) hi (by rw[e1]at hnb;exact c0I hnb)) gSp (fun q t' ho=> ?_) (fun e t ho=>by refine pn ?_;exact kx ((show t0H (r0K x i data s)=(.err e,(t,none)) by rw[e1,a0I ho];rfl)))
  refine ns ?_
  refine go 1 ?_
  refine i0R (h0M gSp) ?_
  refine go 3 ?_
  refine d0P (cs':=h0L {x with root:=q}) Sz.o rfl rfl rfl (by rfl) rfl ?_
  refine go 1 ?_
  refine i0R (h0M gSp) ?_
  refine go 1 ?_
  exact fR (s:=(t',some {x with root:=q})) (by rw[e1,a0A ho];rfl)
theorem t2V (x:Ent) (i:Nat):PB (o0U x i):=b0P (n1K _ _ _) a2N
theorem a2W (x:Ent) (i:Nat) (d:B):PB (r0K x i d):=b0P (n1I _) fun _=>b0P (n1L _ _ _) fun _=>d0C _
theorem l1I {x:Hd} {s:St} (hd:l0R s.d): ∀ {n:Nat} {t:St} {b:B},f0N x n s=(.ok b,t)→b.length=64*n
 |0,t,b,h=>by cases h;rfl
 |n+1,t,b,h=>by
  unfold f0N at h
  simp only at h
  have hro:=e1O x n
  generalize x.at_.getD (4- (n+1)) 0=i at h
  generalize x.sums.getD (4- (n+1)) 0=c at h
  have key: ∀ {m:M B},RO m→(∀ {t b},m s=(.ok b,t)→b.length=64)→a0B m (fun s=>a0B (f0N x n) fun r=>ret (s++r)) s=(.ok b,t)→b.length=64*(n+1):=by
   intro m hm h64 h
   cases hg:m s with
   |mk o u=>
    have hu:u=s:=by have:=hm s;rw[hg]at this;exact this
    subst hu
    cases o with
    |ok v=>
     rw[a0A hg]at h
     cases hg2:f0N x n u with
     |mk o2 u2=>
      cases o2 with
      |ok r=>
       rw[a0A hg2]at h
       cases h
       rw[List.length_append,h64 hg,l1I hd hg2];omega
      |err e=>rw[a0I hg2]at h;cases h
      |big=>unfold a0B at h;rw[hg2]at h;cases h
    |err e=>rw[a0I hg]at h;cases h
    |big=>unfold a0B at h;rw[hg]at h;cases h
  refine key (f1Z (p0S (g1A _) fun _=>f1Z (fun _=>rfl) (t0G _)) (t0G _)) ?_ h
  intro t b h
  split at h
  ·cases hg:h0P i s with
   |mk o u=>
    cases o with
    |ok v=>
     rw[a0A hg]at h
     split at h
     ·cases h
     ·cases h;exact u1K hd (w0Q hg).2
    |err e=>rw[a0I hg]at h;cases h
    |big=>unfold a0B at h;rw[hg]at h;cases h
  ·cases h;rfl
theorem o2R {s t:St} {a:Int} {b:B} (hd:l0R s.d) (h:k0R a s=(.ok b,t)):b.length=256:=by
 unfold k0R at h
 split at h
 ·cases h;simp[a0K]
 ·cases hg:g0W a s with
  |mk o u=>
   cases o with
   |ok x=>
    rw[a0A hg]at h
    have hu:=(q0M hg).1
    subst hu
    exact l1I hd h
   |err e=>rw[a0I hg]at h;cases h
   |big=>unfold a0B at h;rw[hg]at h;cases h
theorem v1B {x:Ent} {i:Nat} {s t:St} {b:B} (hd:l0R s.d) (h:o0U x i s=(.ok b,t)):t=s∧b.length=256:=by
 have h1:=n1P x i s
 rw[h]at h1
 refine⟨h1,?_⟩
 unfold o0U at h
 cases hg:k0S 2 x.root i s with
 |mk o u=>
  cases o with
  |ok v=>
   rw[a0A hg]at h
   have hu:=a1B 2 x.root i s
   rw[hg]at hu
   subst hu
   exact o2R hd h
  |err e=>rw[a0I hg]at h;cases h
  |big=>unfold a0B at h;rw[hg]at h;cases h
theorem o2S {k:Nat} {x:Ent} {at_:Nat} {data:B} (h:data≠ []):j0L (k+1) x at_ data=a0B (o0U x (at_/4)) fun was=>
 a0B (r0K x (at_/4) (was.take (at_%4*64)++data.take (min data.length (256-at_%4*64))++was.drop (at_%4*64+min data.length (256-at_%4*64)))) fun x=>j0L k x (at_+min data.length (256-at_%4*64)/64) (data.drop (min data.length (256-at_%4*64))):=by
 conv=>lhs;unfold j0L
 rw[if_neg h]
theorem j2P {k:Nat} {x:Ent} {at_:Nat} :j0L k x at_ []=ret x:=by cases k<;>rfl
theorem h0B (x y:B):bs (x++y)=bs x++bs y:=by
 apply ByteArray.ext
 rw[ByteArray.data_append]
 simp[bs]
theorem x1Y (was d:B) (f n:Nat):(bs was).extract 0 ((f:Int).toNat)++(bs d).extract 0 ((n:Int).toNat)++(bs was).extract (((f:Int)+(n:Int)).toNat) (bs was).size=bs (was.take f++d.take n++was.drop (f+n)):=by
 rw[show((f:Int)+(n:Int)).toNat=f+n by omega,Int.toNat_natCast,Int.toNat_natCast,z0V,z0V,w0M,←h0B,←h0B]
set_option maxRecDepth 4000 in
theorem l1J (W:World) (hW:h0W W) (a:Ad) (s:St) (b:Nat) (x:Ent) (at_:Nat) (data:B) (hi:at_+data.length<1000000) (hbits:s.bits≤256) (hnb:(e0N x at_ data s).1≠ .big):
 a0F prog 68 #[ptr a.core,ptr b,.int .i64 at_,b0B data] (RS W a s++ [r0Y b x]) (Ran fT (RSo W a (r0Y b)) k0I (t0H (e0N x at_ data s))):=by
 refine ns ?_
 refine en func68 ntmps68 fun R w0=> ?_
 refine go 1 ?_
 refine a0V (X:= {y:Nat×St×Ent×Nat×B // y.2.2.2.2.length≤y.1∧y.2.2.2.1+y.2.2.2.2.length<1000000∧y.2.1.bits=s.bits∧e0N x at_ data s=j0L y.1 y.2.2.1 y.2.2.2.1 y.2.2.2.2 y.2.1}) (fun y=> [(0,ptr a.core),(1,ptr b),(2,.int .i64 y.1.2.2.2.1),(3,b0B y.1.2.2.2.2)]) (fun y=>RS W a y.1.2.1++ [r0Y b y.1.2.2.1,R]) (fun y=>y.1.1) ⟨(data.length,s,x,at_,data),Nat.le_refl _,hi,rfl,rfl⟩ gSu gSp ?_
 rintro⟨⟨k,u,x',at',d⟩,hk,ha,hub,he⟩ m0 hm0
 try simp only at hm0
 try dsimp only
 simp only at hk ha hub he
 refine ns ?_
 refine go 5 ?_
 rw[b0F]
 refine go 3 ?_
 refine a0P rfl (fun hb14=> ?_) (fun hb14=> ?_)
 ·have hd0:0<d.length:=by have h:=hb14;simp only[decide_eq_true_eq]at h;omega
  obtain⟨j,rfl⟩: ∃j,k=j+1:=⟨k-1,by omega⟩
  rw[o2S (by intro e;rw[e]at hd0;exact absurd hd0 (by decide))]at he
  obtain⟨f,hf⟩: ∃f,f=at'%4*64:=⟨_,rfl⟩
  have hfl:f≤192:=by omega
  obtain⟨n,hn⟩: ∃n,n=min d.length (256-f):=⟨_,rfl⟩
  rw[←hf,←hn]at he
  refine go 10 ?_
  rw[show((at':Nat):Int)/4=((at'/4:Nat):Int) by omega,show((at':Nat):Int)%4*64=(f:Int) by omega]
  refine go 8 ?_
  rw[b0F]
  refine go 3 ?_
  rw[show min ((d.length:Nat):Int) (256- (f:Int))=(n:Int) by omega]
  refine go 4 ?_
  refine o0E (p:=l0R u.d) gFd fun hdk=> ?_
  refine go 6 ?_
  refine a0X rfl Hb.o rfl (j2N W a u x' (at'/4) (by omega)) gSp (fun was t ho=> ?_) (fun e t ho=>by refine pn ?_;exact kx ((show t0H (e0N x at_ data s)=(.err e,(t,none)) by rw[he,a0I ho];rfl)))
  refine ns ?_
  obtain⟨hts,hwl⟩:=v1B hdk ho
  rw[hts]at ho ⊢
  rw[a0A ho]at he
  have hws:(bs was).size=256:=by rw[b0F,hwl]
  have hds:(bs d).size=d.length:=b0F d
  refine go 4 ?_
  refine tl 16 ?_
  refine go 5 ?_
  refine b0X (c1R Tst.o rfl rfl (by omega)) ?_
  refine go 2 ?_
  refine b0X (c1R Tst.o rfl rfl (by omega)) ?_
  refine b0X (g0Y rfl rfl (by simp only[ByteArray.size_append,ByteArray.size_extract,maxLen];omega)) ?_
  refine go 4 ?_
  refine b0X (c1Q Tst.o rfl rfl (by omega)) ?_
  refine b0X (g0Y rfl rfl (by simp only[ByteArray.size_append,ByteArray.size_extract,maxLen];omega)) ?_
  refine go 1 ?_
  rw[x1Y was d f n]
  refine a0X rfl Hb.o rfl (j2O W hW a u b x' (at'/4) (was.take f++d.take n++was.drop (f+n)) (by omega) (by simp only[List.length_append,List.length_take,List.length_drop];omega) (by omega) (by rw[he]at hnb;exact c0I hnb)) gSp (fun v ⟨t',ox⟩ ho=> ?_) (fun e t ho=>by refine pn ?_;(obtain⟨t1,t2⟩:=t;obtain⟨hx,hm⟩:=q0O ho;obtain rfl:t2=none:=congrArg Prod.snd hx;have hm:_=(Out.err e,t1):=hm;exact b0W (by rw[he,a0I hm];rfl) idh gSp))
  refine ns ?_
  refine go 1 ?_
  obtain⟨y,hx,hm⟩:=s0L ho
  obtain rfl:ox=some y:=congrArg Prod.snd hx
  have hm:_=(Out.ok y,t'):=hm
  simp only[RSo,List.cons_append,List.nil_append]
  rw[a0A hm]at he
  have hpb:=a2W x' (at'/4) (was.take f++d.take n++was.drop (f+n)) u
  rw[hm]at hpb
  refine go 5 ?_
  refine a0D (c1Q Tst.o rfl rfl (by omega)) ?_
  rw[Int.toNat_natCast,w0M]
  refine go 8 ?_
  rw[show((at':Nat):Int)+(n:Int)/64=((at'+n/64:Nat):Int) by omega]
  refine go 2 ?_
  exact rd idh (⟨(j,t',y,at'+n/64,d.drop n),by(show(d.drop n).length≤j);rw[List.length_drop];omega,by(show at'+n/64+(d.drop n).length<1000000);rw[List.length_drop];omega,hpb.trans hub,he⟩)
 ·have hd0:d= []:=List.eq_nil_of_length_eq_zero (by have h:=hb14;simp only[decide_eq_false_iff_not]at h;omega)
  subst hd0
  rw[j2P]at he
  refine go 1 ?_
  exact fR (s:=(u,some x')) (by rw[he];rfl)
end Go.Proofs.Q

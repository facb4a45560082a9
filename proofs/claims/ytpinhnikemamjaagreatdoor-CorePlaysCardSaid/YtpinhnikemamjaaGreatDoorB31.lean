/- Part of the proof; no statement of its own. -/
import Derived.Test.YtpinhnikemamjaaGreatDoorB18
import Derived.Test.YtpinhnikemamjaaGreatDoorB23
import Derived.Test.YtpinhnikemamjaaGreatDoorB24
import Derived.Test.YtpinhnikemamjaaGreatDoorB30
import Derived.Test.YtpinhnikemamjaaGreatDoorB21
import Derived.Test.YtpinhnikemamjaaGreatDoorB16
import Derived.Test.YtpinhnikemamjaaGreatDoorB06
import Derived.Test.YtpinhnikemamjaaGreatDoorB14
set_option linter.all false
set_option maxRecDepth 4000
set_option maxHeartbeats 4000000
attribute [local irreducible] Go.Sl.a0O Go.Sl.OW Go.Sl.CW Go.Sl.OS Go.Sl.OM Go.Sl.OMf Go.Sl.KM
namespace Go.Proofs.Q
open Go.Sl Go.Sb Tryz
section
def rdR (k:Nat) (x:Ent) (at_ n:Nat) (acc:B) (s:St):Out B×St:=a0B (j0S k x at_ n) (fun r=>ret (acc++r)) s
section
variable {k:Nat} {x:Ent} {at_ n:Nat} {acc b:B} {s t:St} {e:Int}
theorem u2I:rdR k x at_ 0 acc s=(.ok acc,s):=by unfold rdR a0B;cases k<;>simp[j0S,ret]
theorem u2J (hn:n≠0) (h:o0U x (at_/4) s=(.err e,t)):rdR (k+1) x at_ n acc s=(.err e,t):=by
 unfold rdR
 conv=>lhs;unfold j0S
 rw[if_neg hn]
 rw[a0I]
 exact a0I h
theorem w2P (hn:n≠0) (h:o0U x (at_/4) s=(.ok b,t)):rdR (k+1) x at_ n acc s=rdR k x (at_+min n (4-at_%4)) (n-min n (4-at_%4)) (acc++(b.drop (at_%4*64)).take (min n (4-at_%4)*64)) t:=by
 unfold rdR
 conv=>lhs;unfold j0S
 rw[if_neg hn]
 dsimp only
 unfold a0B
 rw[h]
 dsimp only
 cases j0S k x (at_+min n (4-at_%4)) (n-min n (4-at_%4)) t with
 |mk o u=>cases o<;>simp[ret]
end
theorem k2B (b:B) (f m:Nat):(bs b).extract ((f:Int)*64).toNat ((((f:Int)+(m:Int)))*64).toNat=bs ((b.drop (f*64)).take (m*64)):=by
 rw[show((f:Int)*64).toNat=f*64 by omega,show((((f:Int)+(m:Int)))*64).toNat=(f+m)*64 by omega,k1O,List.drop_take,show(f+m)*64-f*64=m*64 by omega]
def l1P (b:Nat) (out:B):a0C:=ex fun x:Value×Value=>b0D (m0K (out= []→x.2= .slice none 0 0)::t0V b x.1 x.2 out)
abbrev k2C (a:Ad) (b0 b1 b2 b3 b4:Nat) (id at_ n:Int):a0C:=b0D ([g0B b0 a,j0O b1 id,f0L b2 at_,f0L b3 n]++t0V b4 (.pointer none) (.slice none 0 0) [])
set_option maxRecDepth 4000 in
theorem e2X (W:World) (a:Ad) (b0 b1 b2 b3 b4:Nat) (id at_ n:Int) (bits:Nat):
 r0G W a (k2C a b0 b1 b2 b3 b4 id at_ n) (l1P b4) 58 [ptr b0,ptr b1,ptr b2,ptr b3,ptr b4] bits (o0B id at_ n):=by
 intro s hsb hnb
 have e0:o0B id at_ n s=a0B (find id) (fun x=>a0B (g0S x at_ n) fun _=>j0S n.toNat x at_.toNat n.toNat) s:=rfl
 refine ns ?_
 refine en func58 ntmps58 fun R w0=> ?_
 refine k0Q (show Fnd _ (b0D ([g0B b0 a,j0O b1 id,f0L b2 at_,f0L b3 n]++t0V b4 (.pointer none) (.slice none 0 0) [])) _ from gFd) ?_
 refine ns ?_
 refine o0E (p:=l0R s.d) gFd fun hdk=> ?_
 refine go 4 ?_
 refine a0X rfl Hb.o rfl (u0X W a s id) gSp (fun x t ho=> ?_) (fun e t ho=>by refine pn ?_;(refine b0G (fun w h=>b0Y h) ?_;exact b0W (c0L (e0.trans (a0I ho))) idh gSp))
 refine ns ?_
 have hts:t=s:=by have h:=ho;unfold find at h;split at h<;>cases h;rfl
 rw[hts]at ho ⊢
 have e1:=e0.trans (a0A ho)
 clear ho hts
 refine al fun b5=> ?_
 refine go 8 ?_
 refine a0X rfl Hb.o rfl (z0G W a s x at_ n (by rw[e1]at hnb;exact c0I hnb)) gSp (fun v t2 ho=> ?_) (fun e t ho=>by refine pn ?_;(refine b0G (fun w h=>b0Y h) ?_;exact b0W (c0L (e1.trans (a0I ho))) idh gSp))
 refine ns ?_
 refine go 1 ?_
 obtain⟨h1,h2,h3,h4,h5⟩:=v0Z ho
 rw[h1]at ho ⊢
 have e2:=e1.trans (a0A ho)
 clear ho
 obtain⟨k,rfl⟩: ∃k:Nat,at_=k:=⟨at_.toNat,by omega⟩
 obtain⟨m,rfl⟩: ∃k:Nat,n=k:=⟨n.toNat,by omega⟩
 rw[Int.toNat_natCast,Int.toNat_natCast]at e2
 have e3:o0B id (k:Int) (m:Int) s=rdR m x k m [] s:=by rw[e2];unfold rdR a0B;cases j0S m x k m s with|mk o u=>cases o<;>rfl
 refine go 2 ?_
 refine a0V (X:= {y:Nat×Nat×Nat×B×Value×Value // y.2.2.1≤y.1∧y.2.1+y.2.2.1≤5000∧y.2.2.2.1.length+64*y.2.2.1≤320000∧(y.2.2.2.2.1= .pointer none∨y.2.2.2.2.1=ptr b4)∧(y.2.2.2.1= []→y.2.2.2.2.2= .slice none 0 0)∧o0B id (k:Int) (m:Int) s=rdR y.1 x y.2.1 y.2.2.1 y.2.2.2.1 s}) (fun y=> [(0,ptr b0),(2,ptr b2),(3,ptr b3),(4,ptr b4),(5,ptr b5)]) (fun y=>RS W a s++(t0V b4 y.1.2.2.2.2.1 y.1.2.2.2.2.2 y.1.2.2.2.1++ [g0B b0 a,f0L b2 y.1.2.1,f0L b3 y.1.2.2.1,r0Y b5 x,R])) (fun y=>y.1.1) ⟨(m,k,m,[],.pointer none,.slice none 0 0),Nat.le_refl _,by(show k+m≤5000);omega,by(show 0+64*m≤320000);omega,.inl rfl,fun _=>rfl,e3⟩ gSu gSp ?_
 rintro⟨⟨j,at',n',acc,p,v'⟩,hj,ha,hl,hp,hv,he⟩ m0 hm0
 try simp only at hm0
 try dsimp only
 simp only at hj ha hl hp hv he
 refine ns ?_
 refine go 7 ?_
 refine a0P rfl (fun hb16=> ?_) (fun hb16=> ?_)
 ·have hn0:n'≠0:=by have h:=hb16;simp only[decide_eq_true_eq]at h;omega
  obtain⟨i,rfl⟩: ∃i,j=i+1:=⟨j-1,by omega⟩
  obtain⟨f,hf⟩: ∃f,f=at'%4:=⟨_,rfl⟩
  have hf4:f<4:=by omega
  obtain⟨q,hq⟩: ∃q,q=min n' (4-f):=⟨_,rfl⟩
  refine go 7 ?_
  rw[show((at':Nat):Int)%4=(f:Int) by omega]
  refine go 9 ?_
  rw[show min ((n':Nat):Int) (4- (f:Int))=(q:Int) by omega]
  refine go 9 ?_
  rw[show((at':Nat):Int)/4=((at'/4:Nat):Int) by omega]
  refine a0X rfl Hb.o rfl (j2M W a s x (at'/4) (by omega)) gSp (fun b t ho=> ?_) (fun e t ho=>by refine pn ?_;(have hts:=n1P x (at'/4) s;rw[ho]at hts;have hts:t=s:=hts;subst hts;refine b0G (fun w h=>b0Y h) ?_;exact b0W (c0L (he.trans (u2J hn0 ho))) idh gSp))
  refine ns ?_
  obtain⟨hts,hbl⟩:=v1B hdk ho
  rw[hts]at ho
  have hbs:(bs b).size=256:=by rw[b0F,hbl]
  rw[w2P hn0 ho,←hf,←hq]at he
  refine go 6 ?_
  refine a0D (e1Y Tst.o rfl rfl rfl (by omega)) ?_
  rw[k2B b f q]
  refine ce 0 (b1V b4 p v' hp acc ((b.drop (f*64)).take (q*64)) (by omega) (by rw[List.length_take,List.length_drop];omega)) ?_
  rintro v35 hv35
  refine ns ?_
  refine go 2 ?_
  refine mx (.soft 1 (.soft 4 (.two 0 (.soft 2 (.two 3 (.soft 5 (.hard 6 (.hard 7 .done))) 6 (.hard 3 (.soft 5 (.hard 7 .done))))) 3 (.soft 5 (.hard 0 (.soft 2 (.hard 6 (.hard 7 .done)))))))) [] ?_
  refine go 2 ?_
  refine q0A rfl rfl ?_ ?_
  ·refine go 4 ?_
   refine q0A rfl rfl ?_ ?_
   ·refine go 13 ?_
    rw[show((at':Nat):Int)+(q:Int)=((at'+q:Nat):Int) by omega,show((n':Nat):Int)- (q:Int)=((n'-q:Nat):Int) by omega]
    exact rd idh (⟨(i,at'+q,n'-q,acc++(b.drop (f*64)).take (q*64),ptr b4,v35),by(show n'-q≤i);omega,by(show at'+q+(n'-q)≤5000);omega,by(show(acc++(b.drop (f*64)).take (q*64)).length+64*(n'-q)≤320000);rw[List.length_append,List.length_take,List.length_drop];omega,.inr rfl,fun h=>by have h:=congrArg List.length h;simp only[List.length_append,List.length_take,List.length_drop,List.length_nil]at h;omega,he⟩)
   ·refine go 13 ?_
    rw[show((at':Nat):Int)+(q:Int)=((at'+q:Nat):Int) by omega,show((n':Nat):Int)- (q:Int)=((n'-q:Nat):Int) by omega]
    exact rd idh (⟨(i,at'+q,n'-q,acc++(b.drop (f*64)).take (q*64),ptr b4,v35),by(show n'-q≤i);omega,by(show at'+q+(n'-q)≤5000);omega,by(show(acc++(b.drop (f*64)).take (q*64)).length+64*(n'-q)≤320000);rw[List.length_append,List.length_take,List.length_drop];omega,.inr rfl,fun h=>by have h:=congrArg List.length h;simp only[List.length_append,List.length_take,List.length_drop,List.length_nil]at h;omega,he⟩)
  ·refine go 18 ?_
   rw[show((at':Nat):Int)+(q:Int)=((at'+q:Nat):Int) by omega,show((n':Nat):Int)- (q:Int)=((n'-q:Nat):Int) by omega]
   exact rd idh (⟨(i,at'+q,n'-q,acc++(b.drop (f*64)).take (q*64),ptr b4,v35),by(show n'-q≤i);omega,by(show at'+q+(n'-q)≤5000);omega,by(show(acc++(b.drop (f*64)).take (q*64)).length+64*(n'-q)≤320000);rw[List.length_append,List.length_take,List.length_drop];omega,.inr rfl,fun h=>by have h:=congrArg List.length h;simp only[List.length_append,List.length_take,List.length_drop,List.length_nil]at h;omega,he⟩)
 ·obtain rfl:n'=0:=by have h:=hb16;simp only[decide_eq_false_iff_not]at h;omega
  rw[u2I]at he
  have hdone: ∀w,Sat w (t0V b4 p v' acc++(RS W a s++ [R]))→Sat w (l1P b4 acc::(RS W a s++ [R])):=fun w h=>g0X.2 ⟨(p,v'),b0J.2 (n0H hv w h)⟩
  refine b0V (L':=l1P b4 acc::(RS W a s++ [R])) (fun w h=>hdone w (((h.perm (show a0Z _ (t0V b4 p v' acc++(RS W a s++ [R])) _ from gSp)).perm List.perm_append_comm).drop)) ?_
  refine ns ?_
  refine go 1 ?_
  exact fR (s:=(s,.done acc)) (m0I he)
end
theorem k2D {α:Type} {m:M α} {s t:St} {y:α} {e:Int} (h:n0T (f0F m) (s,.start)=(.ok e,(t,.done y))): ∃u,m {s with depth:=s.depth+1} =(.ok y,u):=by
 unfold n0T n0S a0B f0F at h
 simp only at h
 split at h<;>rename_i h1
 ·simp only[Prod.mk.injEq,Out.ok.injEq]at h
  obtain⟨rfl,h2,h3⟩:=h
  split at h1
  ·cases h1
  ·rename_i hd
   cases hm:m {s with depth:=s.depth+1} with
   |mk o u=>
    rw[hm]at h1
    cases o with
    |ok a=>
     simp only at h1
     split at h1
     ·cases h1
     ·cases h1;cases h3;exact⟨_,rfl⟩
    |err e'=>
     simp only at h1
     split at h1
     ·cases h1
     ·cases h1;cases h3
    |big=>cases h1
 ·cases h
 ·cases h
def e2Y (p:B×Int):Value:= .tuple #[b0B p.1,.int .i64 p.2]
set_option maxRecDepth 4000 in
theorem e2Z (W:World) (a:Ad) (s:St) (id at_ n:Int) (hlen: ∀ {b:B} {t:St},o0B id at_ n {s with depth:=s.depth+1} =(.ok b,t)→b.length≤1000000) (hnb:(o0G id at_ n s).1≠ .big):
 a0F prog 19 #[ptr a.core,.int .u32 id,.int .i64 at_,.int .i64 n] (RS W a s) (Ran fT (RS W a) e2Y (o0G id at_ n s)):=by
 have e0:o0G id at_ n s=a0B (h0V (o0B id at_ n)) (fun r=>ret (if r.1=0 then(a1Z [] r.2,0)else([],r.1))) s:=rfl
 have hn:=c1G (show(h0V (o0B id at_ n) s).1≠ .big by rw[e0]at hnb;exact c0I hnb)
 refine en func19 ntmps19 fun R w0=> ?_
 refine go 2 ?_
 refine bx fun b4=> ?_
 refine bx fun b5=> ?_
 refine bx fun b6=> ?_
 refine bx fun b7=> ?_
 refine go 6 ?_
 refine al fun b10=> ?_
 refine go 3 ?_
 refine b0V (L':=t0V b10 (.pointer none) (.slice none 0 0) []++_) (fun w hs=>e0W 5 1 w hs |>.perm (List.Perm.swap _ _ _)) ?_
 refine ns ?_
 refine go 4 ?_
 refine a0D (j0K Sc.o rfl gFd rfl) ?_
 refine go 1 ?_
 refine e0K (k0Z (N:= [g0B b4 a,j0O b5 id,f0L b6 at_,f0L b7 n]++t0V b10 (.pointer none) (.slice none 0 0) []) gSp) ?_
 refine a0X rfl Hb.o rfl (t0D (C:=Car B) W a (u0A (k2C a b4 b5 b6 b7 b10 id at_ n) (l1P b10)) 58 [ptr b4,ptr b5,ptr b6,ptr b7,ptr b10] (f0F (o0B id at_ n)) s .start Hb.o hn (fun h=>e2X W a b4 b5 b6 b7 b10 id at_ n s.bits {s with depth:=s.depth+1} rfl (e1R.1 h))) gSp (fun e ⟨t,oc⟩ ho=> ?_) (fun e t ho=>by refine pn ?_;(exact(m0F ho).elim))
 refine ns ?_
 refine go 2 ?_
 have e1:=e0.trans (a0A (s0M ho))
 refine go 8 ?_
 refine a0P rfl (fun hb19=> ?_) (fun hb19=> ?_)
 ·have hz:e≠0:=by have h:=hb19;simp only[bne_iff_ne,ne_eq]at h;exact h
  refine go 7 ?_
  exact rR idh (by rw[e1,if_neg hz];rfl)
 ·have hz:e=0:=by have h:=hb19;simp only[bne_eq_false_iff_eq]at h;exact h
  obtain⟨y,rfl,_⟩| ⟨_,h9⟩:=g1B ho
  rotate_left
  ·exact(h9 hz).elim
  simp only[u0A]
  subst hz
  have hyl:y.length≤1000000:=by obtain⟨u,hu⟩:=k2D ho;exact hlen hu
  refine u0N (show Fnd _ (l1P b10 y) _ from gFd) fun x=> ?_
  obtain⟨p,v⟩:=x
  refine ns ?_
  refine o0E (p:=y= []→v= .slice none 0 0) gFd fun hv=> ?_
  refine go 3 ?_
  by_cases hy0:y= []
  ·refine go 1 ?_
   have hv2:=hv hy0
   subst hy0
   subst hv2
   refine cg 0 (q1J b10 p) ?_
   refine go 5 ?_
   exact rR idh (by rw[e1,if_pos rfl];rfl)
  ·refine cg 1 (e1I b10 p v y hy0 hyl) ?_
   refine go 5 ?_
   exact rR idh (by rw[e1,if_pos rfl];rfl)
theorem l1Q:a0F prog 99 #[] [] (a0T (b0B (a0K 64)) []):=by
 refine en func99 ntmps99 fun R w0=> ?_
 refine cg 7 (z0X 64 (by omega)) ?_
 refine go 3 ?_
 exact rG
theorem f2A (b:Nat) (v:Value) (d:Dk):a0F prog 87 #[ptr b] [pts b (.cells #[v,.bool d.armed,.int .i64 d.left,.bool d.dead] 173 (0,0)),b0H 175 2 v d.l.length (d.l.flatMap t0U)] (a0T (.int .i64 d.l.length) [pts b (.cells #[v,.bool d.armed,.int .i64 d.left,.bool d.dead] 173 (0,0)),b0H 175 2 v d.l.length (d.l.flatMap t0U)]):=by
 refine en func87 ntmps87 fun R w0=> ?_
 refine go 11 ?_
 refine a0D (h0Y Tsl.o rfl gFd) ?_
 refine go 3 ?_
 exact rG
def j1A (n:Nat):List Value:=(List.replicate n (a0K 64,a0K 64)).flatMap t0U
theorem k2E (n:Nat):j1A (n+1)=j1A n++ [b0B (a0K 64),b0B (a0K 64)]:=by unfold j1A;rw[List.replicate_succ',List.flatMap_append];rfl
set_option maxRecDepth 4000 in
theorem k2F (n:Nat) (hn:n≤4096):a0F prog 41 #[.int .i64 n] [] (b0N (fun x:Nat×Value=>x.2.oneCell'=true) (fun x=>ptr x.1) (fun x=> [pts x.1 (.cells #[x.2,.bool false,.int .i64 0,.bool false] 173 (0,0)),b0H 175 2 x.2 n (j1A n)])):=by
 refine en func41 ntmps41 fun R w0=> ?_
 refine go 8 ?_
 refine bx fun b5=> ?_
 refine go 9 ?_
 rw[show min (max ((n:Nat):Int) 0) 4096=(n:Int) by omega]
 refine go 4 ?_
 refine b0V (L':=b0H 175 2 (.slice none 0 0) 0 (j1A 0)::_) (fun w hs=>e0W 175 2 w hs) ?_
 refine a0V (X:= {y:Nat×Value // y.1≤n∧y.2.oneCell'=true}) (fun y=> [(3,ptr b5),(8,.int .i64 n),(9,.int .i64 y.1.1)]) (fun y=> [pts b5 (.cells #[y.1.2,.bool false,.int .i64 0,.bool false] 173 (0,0)),b0H 175 2 y.1.2 y.1.1 (j1A y.1.1),R]) (fun y=>n-y.1.1) ⟨(0,.slice none 0 0),by omega,rfl⟩ gSu gSp ?_
 rintro⟨⟨i,v⟩,hi,hv⟩ m0 hm0
 try simp only at hm0
 try dsimp only
 simp only at hi hv
 refine go 6 ?_
 refine a0P rfl (fun hb10=> ?_) (fun hb10=> ?_)
 ·have hin:i<n:=by have:=of_decide_eq_true hb10;omega
  refine go 4 ?_
  refine u0P 12 (by rfl) (.soft 0 (.soft 1 (.soft 2 (.soft 3 (.soft 4 (.hard 5 (.hard 6 (.soft 7 (.hard 8 (.hard 9 (.soft 10 (.soft 11 .done)))))))))))) [pts b5 (.cells #[v,.bool false,.int .i64 0,.bool false] 173 (0,0))] Fol.o (by kernel_rfl) (by repeat (first|with_reducible exact b0S.bp|with_reducible apply b0S.then|with_reducible apply b0S.inBlock)) gSp ?_
  simp only[List.take_succ_cons,List.take_zero]
  refine go 5 ?_
  refine c0F rfl (fun hok EE FF=> ?_)
  refine ns ?_
  refine cg 0 (l1Q) ?_
  refine go 1 ?_
  refine fn (E:=EE) (F:=FF) (hok.put rfl) ?_
  refine c0F rfl (fun hok EE FF=> ?_)
  refine ns ?_
  refine cg 0 (l1Q) ?_
  refine go 1 ?_
  refine fn (E:=EE) (F:=FF) (hok.put rfl) ?_
  refine go 1 ?_
  refine c0F rfl (fun hok EE FF=> ?_)
  refine ns ?_
  refine bl fun b19=> ?_
  refine go 1 ?_
  refine fn (E:=EE) (F:=FF) (hok.put rfl) ?_
  refine c0F rfl (fun hok EE FF=> ?_)
  refine ns ?_
  refine(c0Z Tsl.o Ttb.o Zr.o rfl rfl rfl gFd (e0Z Tsl.o (by simp;rfl) (by simp) (by simp[Value.oneCell'])) (by simp only[maxLen];omega) (by omega) (fun v20 hv20=> ?_))
  refine go 1 ?_
  refine fn (E:=EE) (F:=FF) (hok.put rfl) ?_
  refine go 3 ?_
  refine z0L ?_
  refine go 2 ?_
  rw[←k2E]
  refine go 5 ?_
  exact rd idh (⟨(i+1,v20),hin,hv20⟩)
 ·obtain rfl:i=n:=by have:=of_decide_eq_false hb10;omega
  refine go 8 ?_
  exact rE idh (b5,v) hv
abbrev dkN (b:Nat) (v:Value) (n:Nat):List a0C:= [pts b (.cells #[v,.bool false,.int .i64 0,.bool false] 173 (0,0)),b0H 175 2 v n (j1A n)]
theorem f2B (b:Nat) (v:Value) (n:Nat):a0F prog 87 #[ptr b] (dkN b v n) (a0T (.int .i64 n) (dkN b v n)):=by
 have h:=f2A b v (g0A n)
 simp only[g0A,List.length_replicate]at h
 exact h
structure HN where
 log:Nat
 gr:Nat
 grl:Nat
 refs:Nat
 by_:Nat
 heap:Nat
abbrev q2O (x:HN) (bd n:Nat):List a0C:= [pts x.heap (.cells #[ptr bd,ptr x.log,ptr x.gr,.map (some x.refs),.map (some x.by_),.slice none 0 0,.int .i64 0] 92 (0,0)),pts x.log (.cells #[.slice none 0 0,.int .i64 0] 154 (0,0)),
 b0L x.refs a0J a0J ([]:List (Int×Int)),b0L x.by_ a0J a0J ([]:List (Int×Int)),pts x.gr (.cells (l0F 2 x.grl (List.replicate n 0)).toArray 192 (0,0)),pts x.grl (.cells ((List.replicate n 0).map gst).toArray 3 (0,0))]
theorem k2G (bd:Nat) (v:Value) (n:Nat) (hn:n≤4000):a0F prog 32 #[ptr bd,.int .i64 2] (dkN bd v (n+2)) (b0N (fun _:HN=>True) (fun x=>ptr x.heap) (fun x=>q2O x bd n++dkN bd v (n+2))):=by
 refine en func32 ntmps32 fun R w0=> ?_
 refine go 9 ?_
 refine bx fun b7=> ?_
 refine cg 2 (f2B bd v (n+2)) ?_
 refine ce 0 (h2Z 2 n ((n+2:Nat):Int) (by omega) (by omega) (by omega)) ?_
 rintro⟨bg,bgl⟩ _
 refine ns ?_
 refine(q0T (fun b12=> ?_))
 refine(q0T (fun b13=> ?_))
 refine e0K (fun w h=>t0M a0J a0J ((show Fnd _ (pts b12 _) _ from gFd).sat h)) ?_
 refine e0K (fun w h=>t0M a0J a0J ((show Fnd _ (pts b13 _) _ from gFd).sat h)) ?_
 refine go 1 ?_
 refine bx fun b15=> ?_
 refine go 3 ?_
 exact rE idh ({log:=b7,gr:=bg,grl:=bgl,refs:=b12,by_:=b13,heap:=b15} :HN) trivial
theorem k2H (bh:Nat) (bits:Nat) (hb:1≤bits∧bits≤256):a0F prog 85 #[ptr bh,.int .i64 bits] [] (b0N (fun _:Nat×Nat=>True) (fun x=>ptr x.1) (fun x=> [pts x.1 (.cells #[ptr bh,.int .i64 bits,.map (some x.2)] 210 (0,0)),b0L x.2 e0C a0J ([]:List (B×Int))])):=by
 refine en func85 ntmps85 fun R w0=> ?_
 refine go 11 ?_
 refine(q0T (fun b9=> ?_))
 rw[show min (max ((bits:Nat):Int) 1) 256=(bits:Int) by omega]
 refine go 1 ?_
 refine e0K (fun w h=>t0M e0C a0J ((show Fnd _ (pts b9 _) _ from gFd).sat h)) ?_
 refine bx fun b11=> ?_
 refine go 3 ?_
 exact rE idh (b11,b9) trivial
theorem k2I (bh bxx:Nat):a0F prog 84 #[ptr bh,ptr bxx] [] (b0N (fun _:Nat=>True) (fun x=>ptr x) (fun x=> [pts x (.cells #[ptr bh,ptr bxx] 194 (0,0))])):=by
 refine en func84 ntmps84 fun R w0=> ?_
 refine go 10 ?_
 refine bx fun b8=> ?_
 refine go 3 ?_
 exact rE idh b8 trivial
structure CN where
 st:Nat
 ix:Nat
 maps:Nat
 core:Nat
 vols:Nat
abbrev q2P (x:CN) (bh bits:Nat):List a0C:= [pts x.st (.cells #[ptr bh,.int .i64 bits,.map (some x.ix)] 210 (0,0)),b0L x.ix e0C a0J ([]:List (B×Int)),pts x.maps (.cells #[ptr bh,ptr x.st] 194 (0,0)),
 b0L x.vols e0H d0Z ([]:List (Int×Ent)),pts x.core (.cells #[ptr bh,ptr x.maps,.map (some x.vols),.int .u32 1,.int .u32 1] 59 (0,0))]
theorem k2J (bh bits:Nat) (hb:1≤bits∧bits≤256):a0F prog 31 #[ptr bh,.int .i64 bits,.int .u32 1] [] (b0N (fun _:CN=>True) (fun x=>ptr x.core) (fun x=>q2P x bh bits)):=by
 refine en func31 ntmps31 fun R w0=> ?_
 refine ce 11 (k2H bh bits hb) ?_
 rintro⟨bs,bi⟩ _
 refine ns ?_
 refine ce 0 (k2I bh bs) ?_
 rintro bm _
 refine ns ?_
 refine(q0T (fun b13=> ?_))
 refine go 2 ?_
 refine e0K (fun w h=>t0M e0H d0Z ((show Fnd _ (pts b13 _) _ from gFd).sat h)) ?_
 refine go 1 ?_
 refine bx fun b17=> ?_
 refine go 3 ?_
 exact rE idh ({st:=bs,ix:=bi,maps:=bm,core:=b17,vols:=b13} :CN) trivial
def adN (bd:Nat) (v:Value) (h:HN) (c:CN):Ad:= {disk:=bd,vd:=v,log:=h.log,gr:=h.gr,grl:=h.grl,refs:=h.refs,heap:=h.heap,st:=c.st,ix:=c.ix,maps:=c.maps,core:=c.core,vols:=c.vols}
theorem u2K {W w:World} {L:List a0C} {bd n bits:Nat} {v:Value} {h:HN} {c:CN} (hn:n≤4000) (hb:1≤bits∧bits≤256)
 (hs:Sat w (whole W::(dkN bd v (n+2)++(q2O h bd n++(q2P c h.heap bits++L))))):Sat w (RS W (adN bd v h c) (j0T (g0A (n+2)) 2 bits 1)++L):=by
 have hbits:(j0T (g0A (n+2)) 2 bits 1).bits=bits:=by show min (max bits 1) 256=bits;omega
 have hg:(j0T (g0A (n+2)) 2 bits 1).g=List.replicate n 0:=by simp[j0T,g0A]
 have hdk:l0R (g0A (n+2)):=⟨fun x hx=>by rw[List.eq_of_mem_replicate hx];simp[a0K],by simp[g0A];omega,by show 0<4611686018427387904;decide⟩
 have hst:n0W (j0T (g0A (n+2)) 2 bits 1):=⟨by show 2≤5000;omega,by rw[hg];simp;omega,fun x hx=>by rw[hg]at hx;rw[List.eq_of_mem_replicate hx];omega,by intro p hp;cases hp⟩
 have h1:=b0Y (e0W 1 1 w hs)
 have h2:=p0P (a:=adN bd v h c) (by_:=h.by_) (o:= []) (log:= []) (depth:=0) (v:= .slice none 0 0) (vals:= []) ⟨by simp,[],[],List.Perm.refl _,rfl,rfl,by simp⟩ (by omega)
  (by simp only[List.cons_append,List.nil_append];exact gSp) w h1
 have h3:=b0Y h2
 have h4:=d0A (a:=adN bd v h c) (s:=j0T (g0A (n+2)) 2 bits 1) (by_:=h.by_) (gv:= .slice none 0 0) (gc:= []) (o:= []) ⟨by simp[j0T],.inl ⟨rfl,rfl,rfl⟩⟩ hst
  (by rw[d0M,hg];exact gSp) w h3
 have h5:=n0H (p:=l0R (g0A (n+2))) hdk w h4
 exact h5.perm (show a0Z _ [whole W,dkC (adN bd v h c) (g0A (n+2)),dkR (adN bd v h c) (g0A (n+2)),m0K (l0R (g0A (n+2))),stC (adN bd v h c) (j0T (g0A (n+2)) 2 bits 1).bits,mpC (adN bd v h c),HL (adN bd v h c) (j0T (g0A (n+2)) 2 bits 1)] L by rw[hbits];unfold dkR;rw[show(g0A (n+2)).l.length=n+2 by simp[g0A]];exact gSp)
abbrev n1T (b core bits:Nat):a0C:=pts b (.cells #[ptr core,.slice none 0 0,.int .i64 1,.int .i64 bits,.int .i64 1] 37 (0,0))
theorem v1O (W:World) (n bits:Nat) (ib:Int) (hib:min (max ib 1) 256=(bits:Int)) (hn:n≤4000) (hb:1≤bits∧bits≤256):a0F prog 11 #[.int .i64 ((n+2:Nat):Int),.int .i64 ib] [whole W] (b0N (fun _:Ad×Nat=>True) (fun x=> .tuple #[ptr x.2,.bool true]) (fun x=>RS W x.1 (j0T (g0A (n+2)) 2 bits 1)++ [n1T x.2 x.1.core bits])):=by
 refine en func11 ntmps11 fun R w0=> ?_
 refine go 11 ?_
 rw[hib]
 refine ce 6 (k2F (n+2) (by omega)) ?_
 rintro⟨bd,v⟩ hv
 refine ns ?_
 refine ce 0 (k2G bd v n hn) ?_
 rintro h _
 refine ns ?_
 refine ce 1 (k2J h.heap bits hb) ?_
 rintro c _
 refine ns ?_
 refine go 4 ?_
 refine mx (.r 0 4 (.r 5 16 (.hard 4 (.r 21 2 .done)))) [pts c.core (.cells #[ptr h.heap,ptr c.maps,.map (some c.vols),.int .u32 1,.int .u32 1] 59 (0,0))] ?_
 refine go 5 ?_
 refine c0V rfl (c1S F.pt35 rfl rfl) ?_
 refine go 5 ?_
 refine v0K rfl (c1S F.pt55 rfl rfl) (wg rfl rfl rfl (wTT rfl)) ?_
 refine go 6 ?_
 refine v0K rfl (c1S F.pt56 rfl rfl) (wg rfl rfl rfl (wTT rfl)) ?_
 refine go 2 ?_
 refine bx fun b19=> ?_
 refine go 6 ?_
 refine b0V (L':=RS W (adN bd v h c) (j0T (g0A (n+2)) 2 bits 1)++ [n1T b19 c.core bits,R]) (fun w hs=>u2K (L:= [n1T b19 c.core bits,R]) hn hb (by simp only[List.cons_append,List.nil_append];exact hs.re gSp)) ?_
 refine ns ?_
 exact rE idh (x:=((adN bd v h c,b19):Ad×Nat)) trivial
theorem k2K (W:World) (n bits:Nat) (hn:n≤4000) (hb:1≤bits∧bits≤256):a0F prog 11 #[.int .i64 ((n+2:Nat):Int),.int .i64 bits] [whole W] (b0N (fun _:Ad×Nat=>True) (fun x=> .tuple #[ptr x.2,.bool true]) (fun x=>RS W x.1 (j0T (g0A (n+2)) 2 bits 1)++ [n1T x.2 x.1.core bits])):=v1O W n bits bits (by omega) hn hb
theorem l1R: ∀ {k:Nat} {x:Ent} {a n:Nat} {s t:St} {b:B},j0S k x a n s=(.ok b,t)→b.length≤64*n
 |0,x,a,n,s,t,b,h=>by cases h;simp
 |k+1,x,a,n,s,t,b,h=>by
  unfold j0S at h
  split at h
  ·cases h;simp
  ·rename_i hn
   simp only at h
   cases hg:o0U x (a/4) s with
   |mk o u=>
    cases o with
    |ok v=>
     rw[a0A hg]at h
     cases hg2:j0S k x (a+min n (4-a%4)) (n-min n (4-a%4)) u with
     |mk o2 u2=>
      cases o2 with
      |ok r=>
       rw[a0A hg2]at h
       cases h
       have:=l1R hg2
       rw[List.length_append,List.length_take];omega
      |err e=>rw[a0I hg2]at h;cases h
      |big=>unfold a0B at h;rw[hg2]at h;cases h
    |err e=>rw[a0I hg]at h;cases h
    |big=>unfold a0B at h;rw[hg]at h;cases h
theorem k2L {id at_ n:Int} {s t:St} {b:B} (h:o0B id at_ n s=(.ok b,t)):b.length≤1000000:=by
 unfold o0B at h
 cases hg:find id s with
 |mk o u=>
  cases o with
  |ok x=>
   rw[a0A hg]at h
   cases hg2:g0S x at_ n u with
   |mk o2 u2=>
    cases o2 with
    |ok v=>
     rw[a0A hg2]at h
     obtain⟨_,h2,h3,h4,h5⟩:=v0Z hg2
     have:=l1R h
     omega
    |err e=>rw[a0I hg2]at h;cases h
    |big=>unfold a0B at h;rw[hg2]at h;cases h
  |err e=>rw[a0I hg]at h;cases h
  |big=>unfold a0B at h;rw[hg]at h;cases h
theorem p2C (W:World) (a:Ad) (s:St) (id at_ n:Int) (hnb:(o0G id at_ n s).1≠ .big):
 a0F prog 19 #[ptr a.core,.int .u32 id,.int .i64 at_,.int .i64 n] (RS W a s) (Ran fT (RS W a) e2Y (o0G id at_ n s)):=e2Z W a s id at_ n k2L hnb
def low (c:UInt8):UInt8:=UInt8.ofNat (c.toNat%4)
def g1C (c:UInt8):B:=List.replicate 64 (low c)
theorem w2Q (c:UInt8):(c.toNat:Int)%4=((low c).toNat:Int):=by unfold low;rw[UInt8.toNat_ofNat'];omega
theorem f2C (c:UInt8):(List.replicate 64 [low c]).flatten=g1C c:=rfl
def o0D (l:B):B:=(l.take 12).flatMap g1C
theorem f2D {l:B} {i:Nat} (h:i<l.length) (h12:i<12):o0D (l.take i)++g1C l[i]=o0D (l.take (i+1)):=by
 unfold o0D
 rw[List.take_of_length_le (l:=l.take i) (by simp;omega),List.take_of_length_le (l:=l.take (i+1)) (by simp;omega),List.take_succ,List.getElem?_eq_getElem h,List.flatMap_append]
 simp
theorem p1Z {l:B} {i:Nat} (h:l.length≤i∨12≤i) (h12:i≤12):o0D (l.take i)=o0D l:=by
 unfold o0D
 rw[List.take_take]
 rcases h with h|h
 ·rw[List.take_of_length_le (by omega),List.take_of_length_le (by omega)]
 ·rw[show min 12 i=12 by omega]
theorem p2D (l:B):(l.flatMap g1C).length=64*l.length:=by
 induction l with
 |nil=>rfl
 |cons c l ih=>rw[List.flatMap_cons,List.length_append,ih];simp[g1C];omega
theorem e1S (l:B):(o0D l).length=64*min 12 l.length:=by unfold o0D;rw[p2D,List.length_take]
set_option maxRecDepth 4000 in
theorem k2M (l:B):a0F prog 18 #[b0B l] [] (a0T (b0B (o0D l)) []):=by
 have hsz:(bs l).size=l.length:=b0F l
 refine en func18 ntmps18 fun R w0=> ?_
 refine go 17 ?_
 refine a0V (X:= {i:Nat // i≤12∧i≤l.length}) (fun y=> [(0,b0B l),(3,b0B (o0D (l.take y.1))),(4,.int .i64 y.1)]) (fun y=> [R]) (fun y=>12-y.1) ⟨0,by omega,by omega⟩ gSu gSp ?_
 rintro⟨i,hi,hil⟩ m0 hm0
 try simp only at hm0
 try dsimp only
 skip
 refine go 2 ?_
 by_cases hlt:i<l.length
 ·refine go 4 ?_
  rw[b0F]
  refine go 7 ?_
  refine a0P rfl (fun hb12=> ?_) (fun hb12=> ?_)
  ·have hi12:i<12:=by have:=of_decide_eq_true hb12;omega
   have hbyte:(bs l).data.toList[((i:Nat):Int).toNat]? =some l[i]:=by rw[l0M,Int.toNat_natCast,List.getElem?_eq_getElem hlt]
   refine go 8 ?_
   refine a0D (c1P Tst.o rfl rfl (by omega) (by assumption)) ?_
   refine a0D (n0Y rfl rfl) ?_
   rw[x2O,w2Q]
   refine bl fun b20=> ?_
   refine a0D (c1X Tsl.o Tst.o Tby.o rfl (l:= [low l[i]]) rfl rfl) ?_
   refine cg 0 (a2C [low l[i]] 64 (by simp) (by omega)) ?_
   rw[f2C]
   refine a0D (g0Y rfl rfl (by rw[b0F,b0F,e1S];simp[g1C];omega)) ?_
   rw[←h0B,f2D hlt hi12]
   refine go 8 ?_
   exact rd idh (⟨i+1,hi12,hlt⟩)
  ·skip
   refine go 8 ?_
   exact rG (hu:=(by rw[p1Z (.inr (by have:=of_decide_eq_false hb12;omega)) hi]))
 ·refine go 4 ?_
  rw[b0F]
  refine go 16 ?_
  exact rG (hu:=(by rw[p1Z (.inl (by omega)) hi]))
abbrev y2B (x:Nat×Int):Value:= .agg #[.int .i64 x.1,.int .i64 x.2]
def JB {C:Type} (J Jx:C→a0C) (p:Bool×C):a0C:=if p.1 then J p.2 else Jx p.2
theorem p2E {C:Type} {J Jx:C→a0C} {p:Bool×C} (h:p.1=true):JB J Jx p=J p.2:=by unfold JB;rw[if_pos h]
theorem p2F {C:Type} {J Jx:C→a0C} {p:Bool×C} (h:p.1=false):JB J Jx p=Jx p.2:=by unfold JB;rw[if_neg (by rw[h];simp)]
abbrev f2E {C:Type} (r:Nat) (J Jx:C→a0C) (see:Nat×Int→C→Bool×C) (m:C→Nat) (bd:Nat):Prop:= ∀x c,m c<bd→a1O prog r #[y2B x] [J c] (fun e L'=>e= .returned (.bool (see x c).1)∧L'= [JB J Jx (see x c)])
abbrev e1T (W:World) (a:Ad) (s:St) {C:Type} (r:Nat) (J Jx:C→a0C) (see:Nat×Int→C→Bool×C) (m:C→Nat) (bd:Nat) (level:Nat):Prop:= ∀(at_:Int) (from_:Nat) (c:C) (ys:List (Nat×Int)),lvs level from_ at_ s=some ys→m c+ys.length≤bd→from_+1000*level≤100000→
 a0F prog 256 #[ptr a.maps,.int .i64 at_,.int .i64 level,.int .i64 from_,.func (.yield r) #[] #[]] (RS W a s++ [J c]) (a0T (.bool (f0Y see ys c).1) (RS W a s++ [JB J Jx (f0Y see ys c)]))
theorem p2G {g:Nat→Int→Option (List (Nat×Int))} {i:Nat} {kids:List Int} {ys:List (Nat×Int)} (hi:i<kids.length) (h:lvK g i (kids.drop i)=some ys): ∃a b,g i (kids.getD i 0)=some a∧lvK g (i+1) (kids.drop (i+1))=some b∧ys=a++b:=by
 rw[List.drop_eq_getElem_cons hi]at h
 unfold lvK at h
 obtain⟨a,h1,h2⟩:=Option.bind_eq_some_iff.1 h
 obtain⟨b,h3,h4⟩:=Option.map_eq_some_iff.1 h2
 exact⟨a,b,by rw[List.getD_eq_getElem?_getD,List.getElem?_eq_getElem hi];exact h1,h3,h4.symm⟩
theorem e1U {C:Type} (see:Nat×Int→C→Bool×C) (x:Nat×Int) (l:List (Nat×Int)) (c:C):f0Y see (x::l) c=if(see x c).1 then f0Y see l (see x c).2 else(false,(see x c).2):=rfl
theorem n1U {C:Type} {see:Nat×Int→C→Bool×C} {mu:C→Nat} (hmu: ∀x c,mu (see x c).2≤mu c+1): ∀(l:List (Nat×Int)) (c:C),mu (f0Y see l c).2≤mu c+l.length
 | [],c=>by show mu c≤_;omega
 |x::l,c=>by
  rw[e1U]
  have h1:=hmu x c
  split
  ·have h2:=n1U hmu l (see x c).2
   simp only[List.length_cons];omega
  ·simp only[List.length_cons];omega
theorem p2H {C:Type} (see:Nat×Int→C→Bool×C) (c:C):f0Y see [] c=(true,c):=rfl
theorem u2L {s:St} {from_ level i:Nat} {k:Int} {xs:List (Nat×Int)} (hk:k=0) (h:f1L s from_ level i k=some xs):xs= []:=by
 subst hk
 cases level<;>exact(Option.some.inj h).symm
theorem u2M {s:St} {from_ level i:Nat} {k:Int} {xs:List (Nat×Int)} (hl:level=0) (hk: ¬k=0) (h:f1L s from_ level i k=some xs):xs= [(from_+i,k)]:=by
 subst hl
 have h1:some (if k=0 then []else [(from_+i,k)])=some xs:=h
 rw[if_neg hk]at h1
 exact(Option.some.inj h1).symm
theorem u2N {s:St} {from_ m i:Nat} {k:Int} {xs:List (Nat×Int)} (hk: ¬k=0) (h:f1L s from_ (m+1) i k=some xs):lvs m (from_+i*8^(m+1)) k s=some xs:=by
 have h1:(if k=0 then some []else lvs m (from_+i*8^(m+1)) k s)=some xs:=h
 rwa [if_neg hk]at h1
theorem pow8 {l:Nat} (h:l<3):1≤8^l∧8^l≤64∧8^(l+1)/8=8^l:=by
 rcases l with _|_|_|l
 ·decide
 ·decide
 ·decide
 ·omega
theorem g1W (W:World) (a:Ad) (s:St) {C:Type} (r:Nat) (J Jx:C→a0C) (see:Nat×Int→C→Bool×C) (mu:C→Nat) (bd:Nat) (hmu: ∀x c,mu (see x c).2≤mu c+1) (hy:f2E r J Jx see mu bd) (level:Nat) (hl:level<3) (ih: ∀m,level=m+1→e1T W a s r J Jx see mu bd m):e1T W a s r J Jx see mu bd level:=by
 intro at_ from_ c ys hv hbd hf
 rw[v2U]at hv
 obtain⟨n,hn⟩: ∃n,(Go.Sb.load at_ level s).1= .ok n:=by
  cases ho:(Go.Sb.load at_ level s).1 with
  |ok n=>exact⟨n,rfl⟩
  |err e=>rw[ho]at hv;cases hv
  |big=>rw[ho]at hv;cases hv
 rw[hn]at hv
 have hv:lvK (f1L s from_ level) 0 n.kids=some ys:=hv
 have hload:Go.Sb.load at_ level s=(.ok n,s):=by
  have h1:Go.Sb.load at_ level s=(.ok n,(Go.Sb.load at_ level s).2):=by rw[←hn]
  have h2:=(h0U h1).1
  rw[h1,h2]
 have hln:=(h0U hload).2
 have k:=q0N W a s at_ level
 rw[hload]at k
 have kload:=k.ran_ok
 have h8:n.kids.length=8:=hln.n
 obtain⟨p1,p2,p3⟩:=pow8 hl
 obtain⟨sp,hsp⟩: ∃sp,sp=8^level:=⟨_,rfl⟩
 rw[←hsp]at p1 p2 p3
 refine ns ?_
 refine en func256 ntmps256 fun R w0=> ?_
 refine cg 8 (p1H level hl) ?_
 refine go 1 ?_
 rw[show(((8^(level+1):Nat):Int))/8=(sp:Int) by omega]
 refine cg 9 (kload) ?_
 refine a0D (o0Q (v:=(n.kids.map a0J).toArray) F.fa182_1 rfl (i1W hln)) ?_
 refine go 4 ?_
 refine a0V (X:= {y:Nat×C×List (Nat×Int) // y.1≤8∧lvK (f1L s from_ level) y.1 (n.kids.drop y.1)=some y.2.2∧mu y.2.1+y.2.2.length≤bd∧f0Y see ys c=f0Y see y.2.2 y.2.1}) (fun y=> [(0,ptr a.maps),(2,.int .i64 level),(3,.int .i64 from_),(4,.func (.yield r) #[] #[]),(11,.int .i64 sp),(21,.agg (n.kids.map a0J).toArray),(22,.int .i64 y.1.1)]) (fun y=>RS W a s++ [J y.1.2.1,R]) (fun y=>8-y.1.1) ⟨(0,c,ys),Nat.zero_le 8,hv,hbd,rfl⟩ gSu gSp ?_
 rintro⟨⟨i,c',zs⟩,hi,hz,hb,he⟩ m0 hm0
 try simp only at hm0
 try dsimp only
 simp only at hi hz hb he
 refine ns ?_
 refine go 6 ?_
 refine a0P rfl (fun hb23=> ?_) (fun hb23=> ?_)
 ·have hi8:i<8:=by have:=of_decide_eq_true hb23;omega
  obtain⟨xs,ws,h1,h2,rfl⟩:=p2G (by omega) hz
  rw[List.length_append]at hb
  refine go 7 ?_
  refine a0D (p0V Tar.o Sc.o rfl rfl (by omega) (j0I a0J n.kids i _ (by omega) (by omega))) ?_
  rw[←b1W (l:=n.kids) (by omega)]
  refine go 6 ?_
  by_cases hk:n.kids.getD i 0=0
  ·refine go 6 ?_
   refine d0R rfl (by rw[hk];rfl) ?_
   refine go 6 ?_
   have hx0:xs= []:=u2L hk h1
   rw[hx0,List.nil_append]at he
   exact rd idh (⟨(i+1,c',ws),by(show i+1≤8);omega,h2,by(show mu c'+ws.length≤bd);omega,he⟩)
  ·refine go 6 ?_
   refine b0R rfl (by simpa using hk) ?_
   refine go 1 ?_
   by_cases hlv:level=0
   ·refine go 6 ?_
    refine d0R rfl (by rw[hlv];rfl) ?_
    refine go 1 ?_
    have hx1:xs= [(from_+i,n.kids.getD i 0)]:=u2M hlv hk h1
    have hm1:=hmu (from_+i,n.kids.getD i 0) c'
    rw[hx1,List.length_singleton]at hb
    rw[hx1,List.singleton_append,e1U]at he
    refine a1P ?_
    refine t0N (d0V rfl) ?_
    refine t0N (d0V rfl) ?_
    refine t0N (d0V rfl) ?_
    refine t0N (q1W rfl rfl (by omega)) ?_
    rw[show((from_:Nat):Int)+((i:Nat):Int)=((from_+i:Nat):Int) by omega]
    refine t0N (d0V rfl) ?_
    refine t0N (s0B Pl.o rfl (by simp[l0Y,nth,Value.cells]<;>rfl)) ?_
    refine h1J rfl rfl (hy (from_+i,n.kids.getD i 0) c' (by omega)) gSp ?_
    refine ns ?_
    refine t0N (a1H rfl) ?_
    refine r1G ?_
    refine go 1 ?_
    refine a0P rfl (fun hb39=> ?_) (fun hb39=> ?_)
    ·have hs1:(see (from_+i,n.kids.getD i 0) c').1=false:=by have h:=hb39;simpa using h
     rw[if_neg (by rw[hs1];simp)]at he
     rw[p2F hs1,he]
     refine go 5 ?_
     exact rG
    ·have hs1:(see (from_+i,n.kids.getD i 0) c').1=true:=by have h:=hb39;simpa using h
     rw[if_pos hs1]at he
     rw[p2E hs1]
     refine go 6 ?_
     exact rd idh (⟨(i+1,(see (from_+i,n.kids.getD i 0) c').2,ws),by(show i+1≤8);omega,h2,by(show mu (see (from_+i,n.kids.getD i 0) c').2+ws.length≤bd);omega,he⟩)
   ·refine go 8 ?_
    obtain⟨m,rfl⟩: ∃m,level=m+1:=⟨level-1,by omega⟩
    have hx2:lvs m (from_+i*sp) (n.kids.getD i 0) s=some xs:=by rw[hsp];exact u2N hk h1
    have hmul:i*sp≤7*64:=Nat.mul_le_mul (by omega) p2
    refine go 5 ?_
    rw[show(((m+1:Nat):Int))-1=(m:Int) by omega]
    refine go 5 ?_
    rw[show((from_:Nat):Int)+((i:Nat):Int)*((sp:Nat):Int)=((from_+i*sp:Nat):Int) by rw[Int.natCast_add,Int.natCast_mul]]
    refine cg 1 (ih m rfl (n.kids.getD i 0) (from_+i*sp) c' xs hx2 (by omega) (by omega)) ?_
    refine go 1 ?_
    rw[s1S]at he
    have hm1:=n1U hmu xs c'
    refine go 3 ?_
    refine a0P rfl (fun hb40=> ?_) (fun hb40=> ?_)
    ·have hs1:(f0Y see xs c').1=false:=by have h:=hb40;simpa using h
     rw[if_neg (by rw[hs1];simp)]at he
     rw[p2F hs1,he]
     refine go 5 ?_
     exact rG
    ·have hs1:(f0Y see xs c').1=true:=by have h:=hb40;simpa using h
     rw[if_pos hs1]at he
     rw[p2E hs1]
     refine go 6 ?_
     exact rd idh (⟨(i+1,(f0Y see xs c').2,ws),by(show i+1≤8);omega,h2,by(show mu (f0Y see xs c').2+ws.length≤bd);omega,he⟩)
 ·obtain rfl:i=8:=by have:=of_decide_eq_false hb23;omega
  have hz0:zs= []:=by rw[List.drop_of_length_le (by omega)]at hz;unfold lvK at hz;exact(Option.some.inj hz).symm
  rw[hz0,p2H]at he
  rw[he]
  refine go 7 ?_
  exact rG
theorem q1A (W:World) (a:Ad) (s:St) {C:Type} (r:Nat) (J Jx:C→a0C) (see:Nat×Int→C→Bool×C) (mu:C→Nat) (bd:Nat) (hmu: ∀x c,mu (see x c).2≤mu c+1) (hy:f2E r J Jx see mu bd): ∀level,level<3→e1T W a s r J Jx see mu bd level
 |0,h=>g1W W a s r J Jx see mu bd hmu hy 0 h (fun m e=>by omega)
 |l+1,h=>g1W W a s r J Jx see mu bd hmu hy (l+1) h (fun m e=>by have e':m=l:=(Nat.succ.inj e).symm;rw[e'];exact q1A W a s r J Jx see mu bd hmu hy l (by omega))
abbrev u0B (b:Nat) (a:Ad):a0C:=pts b (.cells #[ptr a.maps] 56 (0,0))
theorem k2N (W:World) (a:Ad) (s:St) (root:Int) (b0 b1:Nat) {C:Type} (r:Nat) (J Jx:C→a0C) (see:Nat×Int→C→Bool×C) (mu:C→Nat) (bd:Nat) (hmu: ∀x c,mu (see x c).2≤mu c+1) (hy:f2E r J Jx see mu bd) (c:C) (ys:List (Nat×Int)) (hv:lvs 2 0 root s=some ys) (hbd:mu c+ys.length≤bd):
 a0F prog 255 #[.func (.yield r) #[] #[],ptr b0,ptr b1] (RS W a s++ [u0B b0 a,f0L b1 root,J c]) (a0T (.tuple #[]) (RS W a s++ [u0B b0 a,f0L b1 root,JB J Jx (f0Y see ys c)])):=by
 refine ns ?_
 refine en func255 ntmps255 fun R w0=> ?_
 refine cg 4 (q1A W a s r J Jx see mu bd hmu hy 2 (by omega) root 0 c ys hv hbd (by omega)) ?_
 refine go 1 ?_
 refine d0W rfl rfl gSp
theorem p2I (a:Ad) (root:Int):a0F prog 205 #[ptr a.maps,.int .i64 root] [] (b0N (fun _:Nat×Nat=>True) (fun x=> .func (.func 255) #[] #[ptr x.1,ptr x.2]) (fun x=> [u0B x.1 a,f0L x.2 root])):=by
 refine en func205 ntmps205 fun R w0=> ?_
 refine go 2 ?_
 refine bx fun b2=> ?_
 refine bx fun b3=> ?_
 refine go 9 ?_
 exact rE idh ((b2,b3):Nat×Nat) trivial
abbrev w0A (x:Nat×Int):List Value:= [.int .i64 x.1,.int .i64 x.2]
abbrev lvA (b6 b7 b9 from_ upto:Nat) (out:List (Nat×Int)) (v:Value):List a0C:= [pts b9 (.cells #[v] 241 (0,0)),b0H 244 2 v out.length (out.flatMap w0A),f0L b6 from_,f0L b7 upto]
abbrev lvJ (b6 b7 b9 from_ upto l:Nat) (rec:Loop) (x:Option Code) (out:List (Nat×Int)):a0C:=ex fun v:Value=>b0D (pts l (.loop (i0M rec x))::lvA b6 b7 b9 from_ upto out v)
theorem n1V {b6 b7 b9 from_ upto l:Nat} {rec:Loop} {x:Option Code} {out:List (Nat×Int)} {w:World} {M:List a0C} (v:Value) (h:Sat w (pts l (.loop (i0M rec x))::(lvA b6 b7 b9 from_ upto out v++M))):Sat w (lvJ b6 b7 b9 from_ upto l rec x out::M):=g0X.2 ⟨v,b0J.2 h⟩
theorem k2O (from_ upto:Nat) (x:Nat×Int) (c:List (Nat×Int)):(d0G from_ upto x c).2.length≤c.length+1:=by unfold d0G;split<;>(try split)<;>simp
theorem y1F (W:World) (a:Ad) (s:St) (root:Int) (from_ upto:Nat) (ys:List (Nat×Int)) (hv:lvs 2 0 root s=some ys) (hyl:ys.length≤512):a0F prog 168 #[ptr a.maps,.int .i64 root,.int .i64 from_,.int .i64 upto] (RS W a s)
 (b0N (fun _:Value=>True) id (fun v=>RS W a s++ [b0H 244 2 v (f0Y (d0G from_ upto) ys []).2.length ((f0Y (d0G from_ upto) ys []).2.flatMap w0A)])):=by
 refine y0X func168 rfl ntmps168 rfl (fun R w0=> ?_)
 simp only[j0Q,List.cons_append,List.nil_append]
 refine go 2 ?_
 refine bx fun b6=> ?_
 refine bx fun b7=> ?_
 refine go 5 ?_
 refine al fun b9=> ?_
 refine go 4 ?_
 refine b0V (fun w h=>e0W 244 2 w h) ?_
 refine ce 3 (p2I a root) ?_
 rintro⟨p0,p1⟩ _
 refine ns ?_
 refine go 3 ?_
 refine h1M (X:=Bool×List (Nat×Int)) (ok:=fun p=>p=f0Y (d0G from_ upto) ys []) (v:=fun _=> .tuple #[]) (jump:=fun p=>if p.1 then none else some (.exit 0)) (N:=fun p=>RS W a s++ [u0B p0 a,f0L p1 root,ex fun v:Value=>b0D (lvA b6 b7 b9 from_ upto p.2 v)]) rfl Hb.o (show a0Z _ (RS W a s++([u0B p0 a,f0L p1 root]++lvA b6 b7 b9 from_ upto [] (.slice none 0 0))) _ from gSp) ?_ ?_ ?_
 ·intro l D fn tmps hsz hsl rec hrec
  refine m1K (fun w F h=> ?_) (k2N W a s root p0 p1 l (lvJ b6 b7 b9 from_ upto l rec none) (lvJ b6 b7 b9 from_ upto l rec (some (.exit 0))) (d0G from_ upto) List.length 512 (k2O from_ upto) (fun x c hc=> ?_) [] ys hv (by simpa using hyl)) (fun e L hp=> ?_)
  ·simp only[List.cons_append,List.nil_append]at h ⊢
   have h1:Sat w (b0D (pts l (.loop (i0M rec none))::lvA b6 b7 b9 from_ upto [] (.slice none 0 0))::(RS W a s++ [u0B p0 a,f0L p1 root,F])):=b0J.2 (by simp only[List.cons_append,List.nil_append];subst hrec;exact h.re gSp)
   have h2:Sat w (lvJ b6 b7 b9 from_ upto l rec none []::(RS W a s++ [u0B p0 a,f0L p1 root,F])):=g0X.2 ⟨_,h1⟩
   simp only[List.cons_append,List.nil_append]at h2
   exact h2.re gSp
  rotate_left
  ·obtain⟨rfl,rfl⟩:=hp
   refine⟨_,⟨f0Y (d0G from_ upto) ys [],rfl,rfl,rfl⟩,fun w F h=> ?_⟩
   revert h
   generalize f0Y (d0G from_ upto) ys []=p
   obtain⟨b,out⟩:=p
   intro h
   simp only[List.cons_append,List.nil_append]at h ⊢
   cases b with
   |false=>
    rw[p2F rfl]at h
    have h1:Sat w (lvJ b6 b7 b9 from_ upto l rec (some (.exit 0)) out::(RS W a s++ [u0B p0 a,f0L p1 root,F])):=by simp only[List.cons_append,List.nil_append];exact h.re gSp
    obtain⟨v,h2⟩:=g0X.1 h1
    have h3:=b0J.1 h2
    simp only[List.cons_append,List.nil_append]at h3
    have h4:Sat w (b0D (lvA b6 b7 b9 from_ upto out v)::(pts l (.loop (i0M rec (some (.exit 0))))::(RS W a s++ [u0B p0 a,f0L p1 root,F]))):=b0J.2 (by simp only[List.cons_append,List.nil_append];exact h3.re gSp)
    have h5:Sat w ((ex fun v=>b0D (lvA b6 b7 b9 from_ upto out v))::(pts l (.loop (i0M rec (some (.exit 0))))::(RS W a s++ [u0B p0 a,f0L p1 root,F]))):=g0X.2 ⟨v,h4⟩
    simp only[List.cons_append,List.nil_append]at h5
    exact h5.re gSp
   |true=>
    rw[p2E rfl]at h
    have h1:Sat w (lvJ b6 b7 b9 from_ upto l rec none out::(RS W a s++ [u0B p0 a,f0L p1 root,F])):=by simp only[List.cons_append,List.nil_append];exact h.re gSp
    obtain⟨v,h2⟩:=g0X.1 h1
    have h3:=b0J.1 h2
    simp only[List.cons_append,List.nil_append]at h3
    have h4:Sat w (b0D (lvA b6 b7 b9 from_ upto out v)::(pts l (.loop (i0M rec none))::(RS W a s++ [u0B p0 a,f0L p1 root,F]))):=b0J.2 (by simp only[List.cons_append,List.nil_append];exact h3.re gSp)
    have h5:Sat w ((ex fun v=>b0D (lvA b6 b7 b9 from_ upto out v))::(pts l (.loop (i0M rec none))::(RS W a s++ [u0B p0 a,f0L p1 root,F]))):=g0X.2 ⟨v,h4⟩
    simp only[List.cons_append,List.nil_append]at h5
    exact h5.re gSp
  refine h1N fun v=> ?_
  subst hrec
  refine y0W rfl hsz hsl rfl (fun R2 w2=> ?_)
  refine ns ?_
  skip
  refine o0M (by repeat (first|exact o0O|exact u0O|apply q0C|apply o0N)) rfl ?_
  refine al fun b10=> ?_
  refine(a0M Sz.o rfl rfl (by first|rfl|simp) (by simp[Value.oneCell']) (by simp[Value.cells]) (by simp[i0X,Value.cells]<;>rfl) ?_)
  refine go 1 ?_
  refine h1L rfl gFd ?_
  refine h1K ?_
  refine r1H ?_
  refine r1H ?_
  refine o0M (by repeat (first|exact o0O|exact u0O|apply q0C|apply o0N)) rfl ?_
  refine go 5 ?_
  refine m1I idh ?_
  refine q2F rfl (fun hb18=> ?_) (fun hb18=> ?_)
  ·have hge:upto≤x.1:=by have h:=hb18;simp only[decide_eq_true_eq]at h;omega
   have hs:d0G from_ upto x c=(false,c):=by unfold d0G;rw[if_pos hge]
   rw[hs]
   refine r2F ?_
   repeat (first|with_reducible refine l0S ?_|with_reducible refine q0D ?_|with_reducible refine n0I rfl ?_)
   refine b2V gFd (fun w h=>⟨_,⟨rfl,rfl⟩,n1V (M:= [R2]) v ?_⟩) rfl
   simp only[List.cons_append,List.nil_append]at h ⊢
   exact h.sub gSp
  ·have hge: ¬upto≤x.1:=by have h:=hb18;simp only[decide_eq_false_iff_not]at h;omega
   refine y1V ?_
   refine m1I idh ?_
   refine r1H ?_
   refine o0M (by repeat (first|exact o0O|exact u0O|apply q0C|apply o0N)) rfl ?_
   refine go 5 ?_
   refine m1I idh ?_
   refine q2F rfl (fun hb22=> ?_) (fun hb22=> ?_)
   ·have hs:d0G from_ upto x c=(true,c++ [x]):=by unfold d0G;rw[if_neg hge,if_pos (by have h:=hb22;simp only[decide_eq_true_eq]at h;omega)]
    rw[hs]
    refine o0M (by repeat (first|exact o0O|exact u0O|apply q0C|apply o0N)) rfl ?_
    refine go 2 ?_
    refine bl fun b25=> ?_
    refine(c0Z Tsl.o Ttb.o Zr.o rfl rfl rfl gFd (e0Z Tsl.o (by simp;rfl) (by simp) (by simp[Value.oneCell'])) (by simp only[maxLen];omega) (by omega) (fun v26 hv26=> ?_))
    refine go 2 ?_
    rw[show c.flatMap w0A++ [Value.int .i64 x.1,Value.int .i64 x.2]=(c++ [x]).flatMap w0A by simp,show c.length+1=(c++ [x]).length by simp]
    repeat (first|with_reducible refine l0S ?_|with_reducible refine q0D ?_|with_reducible refine n0I rfl ?_)
    refine y0D gFd (fun w h=>⟨_,⟨rfl,rfl⟩,n1V (M:= [R2]) v26 ?_⟩) rfl
    simp only[List.cons_append,List.nil_append]at h ⊢
    exact h.sub gSp
   ·have hs:d0G from_ upto x c=(true,c):=by unfold d0G;rw[if_neg hge,if_neg (by have h:=hb22;simp only[decide_eq_false_iff_not]at h;omega)]
    rw[hs]
    refine y1V ?_
    repeat (first|with_reducible refine l0S ?_|with_reducible refine q0D ?_|with_reducible refine n0I rfl ?_)
    refine y0D gFd (fun w h=>⟨_,⟨rfl,rfl⟩,n1V (M:= [R2]) v ?_⟩) rfl
    simp only[List.cons_append,List.nil_append]at h ⊢
    exact h.sub gSp
 ·intro D x hx hj
  subst hx
  refine go 2 ?_
  refine ns ?_
  refine u0N (show Fnd _ (ex fun v:Value=>b0D (lvA b6 b7 b9 from_ upto (f0Y (d0G from_ upto) ys []).2 v)) _ from gFd) fun v=> ?_
  refine ns ?_
  refine go 5 ?_
  exact f1E idh rfl gSp ⟨v,trivial,rfl,rfl⟩
 ·intro D x k hx hj
  subst hx
  obtain rfl:k= .exit 0:=by split at hj<;>simp_all
  refine go 3 ?_
  refine ns ?_
  refine u0N (show Fnd _ (ex fun v:Value=>b0D (lvA b6 b7 b9 from_ upto (f0Y (d0G from_ upto) ys []).2 v)) _ from gFd) fun v=> ?_
  refine ns ?_
  refine go 5 ?_
  exact f1E idh rfl gSp ⟨v,trivial,rfl,rfl⟩
end Go.Proofs.Q

/- Part of the proof; no statement of its own. -/
import Derived.Test.YtpinhnikemamjaaGreatDoorD24
import Derived.Test.YtpinhnikemamjaaGreatDoorD19
import Derived.Test.YtpinhnikemamjaaGreatDoorD28
import Derived.Test.YtpinhnikemamjaaGreatDoorD22
import Derived.Test.YtpinhnikemamjaaGreatDoorD31
import Derived.Test.YtpinhnikemamjaaGreatDoorD18
import Derived.Test.YtpinhnikemamjaaGreatDoorD06
import Derived.Test.YtpinhnikemamjaaGreatDoorD13
set_option linter.all false
set_option maxRecDepth 4000
set_option maxHeartbeats 4000000
attribute [local irreducible] Go.Sl.a0P Go.Sl.OW Go.Sl.CW Go.Sl.OS Go.Sl.OM Go.Sl.OMf Go.Sl.KM
namespace Go.Proofs.Q
open Go.Sl Go.Sb Tryz
section
def rdR (k:Nat) (x:Ent) (at_ n:Nat) (acc:B) (s:St):Out B×St:=a0B (k0D k x at_ n) (fun r=>ret (acc++r)) s
section
variable {k:Nat} {x:Ent} {at_ n:Nat} {acc b:B} {s t:St} {e:Int}
theorem w2H:rdR k x at_ 0 acc s=(.ok acc,s):=by unfold rdR a0B;cases k<;>simp[k0D,ret]
theorem w2I (a:n≠0) (h:p0K x (at_/4) s=(.err e,t)):rdR (k+1) x at_ n acc s=(.err e,t):=by
 unfold rdR
 conv=>lhs;unfold k0D
 rw[if_neg a];rw[a0F];exact a0F h
theorem y2Q (a:n≠0) (h:p0K x (at_/4) s=(.ok b,t)):rdR (k+1) x at_ n acc s=rdR k x (at_+min n (4-at_%4)) (n-min n (4-at_%4)) (acc++(b.drop (at_%4*64)).take (min n (4-at_%4)*64)) t:=by
 unfold rdR
 conv=>lhs;unfold k0D
 rw[if_neg a];dsimp only;unfold a0B;rw[h];dsimp only;cases k0D k x (at_+min n (4-at_%4)) (n-min n (4-at_%4)) t with
 |mk o u=>cases o<;>simp[ret]
end
theorem m2K (b:B) (f m:Nat):(bs b).extract ((f:Int)*64).toNat ((((f:Int)+(m:Int)))*64).toNat=bs ((b.drop (f*64)).take (m*64)):=by
 rw[show((f:Int)*64).toNat=f*64 by omega,show((((f:Int)+(m:Int)))*64).toNat=(f+m)*64 by omega,l1V,List.drop_take,show(f+m)*64-f*64=m*64 by omega]
def m1X (b:Nat) (out:B):a0E:=ex fun x:Value×Value=>b0E (m0X (out= []→x.2= .slice none 0 0)::u0R b x.1 x.2 out)
abbrev m2L (a:Ad) (b0 b1 b2 b3 b4:Nat) (id at_ n:Int):a0E:=b0E ([f0G b0 a,j0V b1 id,f0W b2 at_,f0W b3 n]++u0R b4 (.pointer none) (.slice none 0 0) [])
set_option maxRecDepth 4000 in
theorem h2A (W:World) (a:Ad) (b0 G C D l:Nat) (id at_ n:Int) (bits:Nat):
 r0U W a (m2L a b0 G C D l id at_ n) (m1X l) 58 [ptr b0,ptr G,ptr C,ptr D,ptr l] bits (o0S id at_ n):=by
 intro s V F;have e0:o0S id at_ n s=a0B (find id) (fun x=>a0B (h0J x at_ n) fun _=>k0D n.toNat x at_.toNat n.toNat) s:=rfl;refine ns ?_;refine en func58 ntmps58 fun R w0=> ?_;refine l0C (show Fnd _ (b0E ([f0G b0 a,j0V G id,f0W C at_,f0W D n]++u0R l (.pointer none) (.slice none 0 0) [])) _ from gFd) ?_;refine ns ?_;refine n0N (p:=l0N s.d) gFd fun J=> ?_;refine go 4 ?_;refine a0U rfl Hb.o rfl (v0X W a s id) gSp (fun x t c=> ?_) (fun e t c=>by refine pn ?_;(refine b0F (fun w h=>c0C h) ?_;exact b0W (c0S (e0.trans (a0F c))) idh gSp));refine ns ?_;have g:t=s:=by have h:=c;unfold find at h;split at h<;>cases h;rfl
 rw[g]at c ⊢;have H:=e0.trans (a0A c);clear c g;refine al fun K=> ?_;refine go 8 ?_;refine a0U rfl Hb.o rfl (a1F W a s x at_ n (by rw[H]at F;exact c0I F)) gSp (fun v t2 c=> ?_) (fun e t c=>by refine pn ?_;(refine b0F (fun w h=>c0C h) ?_;exact b0W (c0S (H.trans (a0F c))) idh gSp));refine ns ?_;refine go 1 ?_;obtain⟨P,Y,Z,h4,h5⟩:=w0V c;rw[P]at c ⊢;have M:=H.trans (a0A c);clear c;obtain⟨k,rfl⟩: ∃k:Nat,at_=k:=⟨at_.toNat,by omega⟩;obtain⟨m,rfl⟩: ∃k:Nat,n=k:=⟨n.toNat,by omega⟩;rw[Int.toNat_natCast,Int.toNat_natCast]at M;have O:o0S id (k:Int) (m:Int) s=rdR m x k m [] s:=by rw[M];unfold rdR a0B;cases k0D m x k m s with|mk o u=>cases o<;>rfl
 refine go 2 ?_;refine a0V (X:= {y:Nat×Nat×Nat×B×Value×Value // y.2.2.1≤y.1∧y.2.1+y.2.2.1≤5000∧y.2.2.2.1.length+64*y.2.2.1≤320000∧(y.2.2.2.2.1= .pointer none∨y.2.2.2.2.1=ptr l)∧(y.2.2.2.1= []→y.2.2.2.2.2= .slice none 0 0)∧o0S id (k:Int) (m:Int) s=rdR y.1 x y.2.1 y.2.2.1 y.2.2.2.1 s}) (fun y=> [(0,ptr b0),(2,ptr C),(3,ptr D),(4,ptr l),(5,ptr K)]) (fun y=>RS W a s++(u0R l y.1.2.2.2.2.1 y.1.2.2.2.2.2 y.1.2.2.2.1++ [f0G b0 a,f0W C y.1.2.1,f0W D y.1.2.2.1,s0M K x,R])) (fun y=>y.1.1) ⟨(m,k,m,[],.pointer none,.slice none 0 0),Nat.le_refl _,by(show k+m≤5000);omega,by(show 0+64*m≤320000);omega,.inl rfl,fun _=>rfl,O⟩ gSu gSp ?_;rintro⟨⟨j,at',n',acc,p,v'⟩,hj,ha,hl,hp,hv,he⟩ m0 hm0
 try simp only at hm0
 try dsimp only
 simp only at hj ha hl hp hv he;refine ns ?_;refine go 7 ?_;refine a0O rfl (fun r=> ?_) (fun r=> ?_)
 ·have E:n'≠0:=by have h:=r;simp only[decide_eq_true_eq]at h;omega
  obtain⟨i,rfl⟩: ∃i,j=i+1:=⟨j-1,by omega⟩;obtain⟨f,S⟩: ∃f,f=at'%4:=⟨_,rfl⟩;have T:f<4:=by omega
  obtain⟨q,U⟩: ∃q,q=min n' (4-f):=⟨_,rfl⟩;refine go 7 ?_;rw[show((at':Nat):Int)%4=(f:Int) by omega];refine go 9 ?_;rw[show min ((n':Nat):Int) (4- (f:Int))=(q:Int) by omega];refine go 9 ?_;rw[show((at':Nat):Int)/4=((at'/4:Nat):Int) by omega];refine a0U rfl Hb.o rfl (l2V W a s x (at'/4) (by omega)) gSp (fun b t c=> ?_) (fun e t c=>by refine pn ?_;(have g:=p1B x (at'/4) s;rw[c]at g;have g:t=s:=g;subst g;refine b0F (fun w h=>c0C h) ?_;exact b0W (c0S (he.trans (w2I E c))) idh gSp));refine ns ?_;obtain⟨g,I⟩:=w1T J c;rw[g]at c;have Q:(bs b).size=256:=by rw[b0H,I]
  rw[y2Q E c,←S,←U]at he;refine go 6 ?_;refine a0D (g1F Tst.o rfl rfl rfl (by omega)) ?_;rw[m2K b f q];refine ce 0 (c1W l p v' hp acc ((b.drop (f*64)).take (q*64)) (by omega) (by rw[List.length_take,List.length_drop];omega)) ?_;rintro A N;refine ns ?_;refine go 2 ?_;refine mx (.soft 1 (.soft 4 (.two 0 (.soft 2 (.two 3 (.soft 5 (.hard 6 (.hard 7 .done))) 6 (.hard 3 (.soft 5 (.hard 7 .done))))) 3 (.soft 5 (.hard 0 (.soft 2 (.hard 6 (.hard 7 .done)))))))) [] ?_;refine go 2 ?_;refine p0R rfl rfl ?_ ?_
  ·refine go 4 ?_;refine p0R rfl rfl ?_ ?_
   ·refine go 13 ?_;rw[show((at':Nat):Int)+(q:Int)=((at'+q:Nat):Int) by omega,show((n':Nat):Int)- (q:Int)=((n'-q:Nat):Int) by omega];exact rd idh (⟨(i,at'+q,n'-q,acc++(b.drop (f*64)).take (q*64),ptr l,A),by(show n'-q≤i);omega,by(show at'+q+(n'-q)≤5000);omega,by(show(acc++(b.drop (f*64)).take (q*64)).length+64*(n'-q)≤320000);rw[List.length_append,List.length_take,List.length_drop];omega,.inr rfl,fun h=>by have h:=congrArg List.length h;simp only[List.length_append,List.length_take,List.length_drop,List.length_nil]at h;omega,he⟩)
   ·refine go 13 ?_;rw[show((at':Nat):Int)+(q:Int)=((at'+q:Nat):Int) by omega,show((n':Nat):Int)- (q:Int)=((n'-q:Nat):Int) by omega];exact rd idh (⟨(i,at'+q,n'-q,acc++(b.drop (f*64)).take (q*64),ptr l,A),by(show n'-q≤i);omega,by(show at'+q+(n'-q)≤5000);omega,by(show(acc++(b.drop (f*64)).take (q*64)).length+64*(n'-q)≤320000);rw[List.length_append,List.length_take,List.length_drop];omega,.inr rfl,fun h=>by have h:=congrArg List.length h;simp only[List.length_append,List.length_take,List.length_drop,List.length_nil]at h;omega,he⟩)
  ·refine go 18 ?_;rw[show((at':Nat):Int)+(q:Int)=((at'+q:Nat):Int) by omega,show((n':Nat):Int)- (q:Int)=((n'-q:Nat):Int) by omega];exact rd idh (⟨(i,at'+q,n'-q,acc++(b.drop (f*64)).take (q*64),ptr l,A),by(show n'-q≤i);omega,by(show at'+q+(n'-q)≤5000);omega,by(show(acc++(b.drop (f*64)).take (q*64)).length+64*(n'-q)≤320000);rw[List.length_append,List.length_take,List.length_drop];omega,.inr rfl,fun h=>by have h:=congrArg List.length h;simp only[List.length_append,List.length_take,List.length_drop,List.length_nil]at h;omega,he⟩)
 ·obtain rfl:n'=0:=by have h:=r;simp only[decide_eq_false_iff_not]at h;omega
  rw[w2H]at he;have z: ∀w,Sat w (u0R l p v' acc++(RS W a s++ [R]))→Sat w (m1X l acc::(RS W a s++ [R])):=fun w h=>g0K.2 ⟨(p,v'),b0M.2 (n0V hv w h)⟩;refine b0U (L':=m1X l acc::(RS W a s++ [R])) (fun w h=>z w (((h.perm (show b0A _ (u0R l p v' acc++(RS W a s++ [R])) _ from gSp)).perm List.perm_append_comm).drop)) ?_;refine ns ?_;refine go 1 ?_;exact fR (s:=(s,.done acc)) (m0W he)
end
theorem m2M {α:Type} {m:M α} {s t:St} {y:α} {e:Int} (h:o0J (f0P m) (s,.start)=(.ok e,(t,.done y))): ∃u,m {s with depth:=s.depth+1} =(.ok y,u):=by
 unfold o0J o0I a0B f0P at h;simp only at h;split at h<;>rename_i b
 ·simp only[Prod.mk.injEq,Out.ok.injEq]at h;obtain⟨rfl,f,c⟩:=h;split at b
  ·cases b
  ·rename_i hd;cases d:m {s with depth:=s.depth+1} with
   |mk o u=>
    rw[d]at b;cases o with
    |ok a=>
     simp only at b;split at b
     ·cases b
     ·cases b;cases c;exact⟨_,rfl⟩
    |err e'=>
     simp only at b;split at b
     ·cases b
     ·cases b;cases c
    |big=>cases b
 ·cases h
 ·cases h
def h2B (p:B×Int):Value:= .tuple #[b0C p.1,.int .i64 p.2]
set_option maxRecDepth 4000 in
theorem h2C (W:World) (a:Ad) (s:St) (id at_ n:Int) (g: ∀ {b:B} {t:St},o0S id at_ n {s with depth:=s.depth+1} =(.ok b,t)→b.length≤1000000) (i:(n0Y id at_ n s).1≠ .big):
 a0G prog 19 #[ptr a.core,.int .u32 id,.int .i64 at_,.int .i64 n] (RS W a s) (Ran fT (RS W a) h2B (n0Y id at_ n s)):=by
 have e0:n0Y id at_ n s=a0B (i0K (o0S id at_ n)) (fun r=>ret (if r.1=0 then(b1Z [] r.2,0)else([],r.1))) s:=rfl;have G:=d1L (show(i0K (o0S id at_ n) s).1≠ .big by rw[e0]at i;exact c0I i);refine en func19 ntmps19 fun R w0=> ?_;refine go 2 ?_;refine bx fun k=> ?_;refine bx fun l=> ?_;refine bx fun m=> ?_;refine bx fun q=> ?_;refine go 6 ?_;refine al fun c=> ?_;refine go 3 ?_;refine b0U (L':=u0R c (.pointer none) (.slice none 0 0) []++_) (fun w H=>f0E 5 1 w H |>.perm (List.Perm.swap _ _ _)) ?_;refine ns ?_;refine go 4 ?_;refine a0D (j0R Sc.o rfl gFd rfl) ?_;refine go 1 ?_;refine e0X (l0O (N:= [f0G k a,j0V l id,f0W m at_,f0W q n]++u0R c (.pointer none) (.slice none 0 0) []) gSp) ?_;refine a0U rfl Hb.o rfl (t0V (C:=Car B) W a (u0Y (m2L a k l m q c id at_ n) (m1X c)) 58 [ptr k,ptr l,ptr m,ptr q,ptr c] (f0P (o0S id at_ n)) s .start Hb.o G (fun h=>h2A W a k l m q c id at_ n s.bits {s with depth:=s.depth+1} rfl (f1W.1 h))) gSp (fun e ⟨t,J⟩ j=> ?_) (fun e t j=>by refine pn ?_;(exact(m0T j).elim));refine ns ?_;refine go 2 ?_;have A:=e0.trans (a0A (t0A j));refine go 8 ?_;refine a0O rfl (fun d=> ?_) (fun d=> ?_)
 ·have z:e≠0:=by have h:=d;simp only[bne_iff_ne,ne_eq]at h;exact h
  refine go 7 ?_;exact rR idh (by rw[A,if_neg z];rfl)
 ·have z:e=0:=by have h:=d;simp only[bne_eq_false_iff_eq]at h;exact h
  obtain⟨y,rfl,_⟩| ⟨_,F⟩:=h1J j
  rotate_left
  ·exact(F z).elim
  simp only[u0Y];subst z;have E:y.length≤1000000:=by obtain⟨u,hu⟩:=m2M j;exact g hu
  refine v0M (show Fnd _ (m1X c y) _ from gFd) fun x=> ?_;obtain⟨p,v⟩:=x;refine ns ?_;refine n0N (p:=y= []→v= .slice none 0 0) gFd fun I=> ?_;refine go 3 ?_;by_cases f:y= []
  ·refine go 1 ?_;have D:=I f;subst f;subst D;refine cg 0 (r1U c p) ?_;refine go 5 ?_;exact rR idh (by rw[A,if_pos rfl];rfl)
  ·refine cg 1 (f1M c p v y f E) ?_;refine go 5 ?_;exact rR idh (by rw[A,if_pos rfl];rfl)
theorem m1Y:a0G prog 99 #[] [] (a0T (b0C (a0L 64)) []):=by
 refine en func99 ntmps99 fun R w0=> ?_;refine cg 7 (a1X 64 (by omega)) ?_;refine go 3 ?_;exact rG
theorem h2D (b:Nat) (v:Value) (d:Dk):a0G prog 87 #[ptr b] [pts b (.cells #[v,.bool d.armed,.int .i64 d.left,.bool d.dead] 173 (0,0)),b0I 175 2 v d.l.length (d.l.flatMap t0U)] (a0T (.int .i64 d.l.length) [pts b (.cells #[v,.bool d.armed,.int .i64 d.left,.bool d.dead] 173 (0,0)),b0I 175 2 v d.l.length (d.l.flatMap t0U)]):=by
 refine en func87 ntmps87 fun R w0=> ?_;refine go 11 ?_;refine a0D (i0N Tsl.o rfl gFd) ?_;refine go 3 ?_;exact rG
def k1H (n:Nat):List Value:=(List.replicate n (a0L 64,a0L 64)).flatMap t0U
theorem m2N (n:Nat):k1H (n+1)=k1H n++ [b0C (a0L 64),b0C (a0L 64)]:=by unfold k1H;rw[List.replicate_succ',List.flatMap_append];rfl
set_option maxRecDepth 4000 in
theorem m2O (n:Nat) (j:n≤4096):a0G prog 41 #[.int .i64 n] [] (b0P (fun x:Nat×Value=>x.2.oneCell'=true) (fun x=>ptr x.1) (fun x=> [pts x.1 (.cells #[x.2,.bool false,.int .i64 0,.bool false] 173 (0,0)),b0I 175 2 x.2 n (k1H n)])):=by
 refine en func41 ntmps41 fun R w0=> ?_;refine go 8 ?_;refine bx fun d=> ?_;refine go 9 ?_;rw[show min (max ((n:Nat):Int) 0) 4096=(n:Int) by omega];refine go 4 ?_;refine b0U (L':=b0I 175 2 (.slice none 0 0) 0 (k1H 0)::_) (fun w h=>f0E 175 2 w h) ?_;refine a0V (X:= {y:Nat×Value // y.1≤n∧y.2.oneCell'=true}) (fun y=> [(3,ptr d),(8,.int .i64 n),(9,.int .i64 y.1.1)]) (fun y=> [pts d (.cells #[y.1.2,.bool false,.int .i64 0,.bool false] 173 (0,0)),b0I 175 2 y.1.2 y.1.1 (k1H y.1.1),R]) (fun y=>n-y.1.1) ⟨(0,.slice none 0 0),by omega,rfl⟩ gSu gSp ?_;rintro⟨⟨i,v⟩,hi,hv⟩ m0 hm0
 try simp only at hm0
 try dsimp only
 simp only at hi hv;refine go 6 ?_;refine a0O rfl (fun b=> ?_) (fun b=> ?_)
 ·have e:i<n:=by have:=of_decide_eq_true b;omega
  refine go 4 ?_;refine v0O 12 (by rfl) (.soft 0 (.soft 1 (.soft 2 (.soft 3 (.soft 4 (.hard 5 (.hard 6 (.soft 7 (.hard 8 (.hard 9 (.soft 10 (.soft 11 .done)))))))))))) [pts d (.cells #[v,.bool false,.int .i64 0,.bool false] 173 (0,0))] Fol.o (by kernel_rfl) (by repeat (first|with_reducible exact b0T.bp|with_reducible apply b0T.then|with_reducible apply b0T.inBlock)) gSp ?_;simp only[List.take_succ_cons,List.take_zero];refine go 5 ?_;refine b0Y rfl (fun a EE FF=> ?_);refine ns ?_;refine cg 0 (m1Y) ?_;refine go 1 ?_;refine fn (E:=EE) (F:=FF) (a.put rfl) ?_;refine b0Y rfl (fun a EE FF=> ?_);refine ns ?_;refine cg 0 (m1Y) ?_;refine go 1 ?_;refine fn (E:=EE) (F:=FF) (a.put rfl) ?_;refine go 1 ?_;refine b0Y rfl (fun a EE FF=> ?_);refine ns ?_;refine bl fun g=> ?_;refine go 1 ?_;refine fn (E:=EE) (F:=FF) (a.put rfl) ?_;refine b0Y rfl (fun a EE FF=> ?_);refine ns ?_;refine(d0E Tsl.o Ttb.o Zr.o rfl rfl rfl gFd (f0I Tsl.o (by simp;rfl) (by simp) (by simp[Value.oneCell'])) (by simp only[maxLen];omega) (by omega) (fun f c=> ?_));refine go 1 ?_;refine fn (E:=EE) (F:=FF) (a.put rfl) ?_;refine go 3 ?_;refine a1K ?_;refine go 2 ?_;rw[←m2N];refine go 5 ?_;exact rd idh (⟨(i+1,f),e,c⟩)
 ·obtain rfl:i=n:=by have:=of_decide_eq_false b;omega
  refine go 8 ?_;exact rE idh (d,v) hv
abbrev dkN (b:Nat) (v:Value) (n:Nat):List a0E:= [pts b (.cells #[v,.bool false,.int .i64 0,.bool false] 173 (0,0)),b0I 175 2 v n (k1H n)]
abbrev dkP (b:Nat) (v:Value) (d:Dk):List a0E:= [pts b (.cells #[v,.bool d.armed,.int .i64 d.left,.bool d.dead] 173 (0,0)),b0I 175 2 v d.l.length (d.l.flatMap t0U)]
structure HN where
 log:Nat
 gr:Nat
 grl:Nat
 refs:Nat
 by_:Nat
 heap:Nat
abbrev s1J (x:HN) (bd n:Nat):List a0E:= [pts x.heap (.cells #[ptr bd,ptr x.log,ptr x.gr,.map (some x.refs),.map (some x.by_),.slice none 0 0,.int .i64 0] 92 (0,0)),pts x.log (.cells #[.slice none 0 0,.int .i64 0] 154 (0,0)),
 b0K x.refs a0H a0H ([]:List (Int×Int)),b0K x.by_ a0H a0H ([]:List (Int×Int)),pts x.gr (.cells (l0V 2 x.grl (List.replicate n 0)).toArray 192 (0,0)),pts x.grl (.cells ((List.replicate n 0).map gst).toArray 3 (0,0))]
theorem x1G (c:Nat) (v:Value) (d:Dk) (n:Nat) (hd:d.l.length=n+2) (i:n≤4094):a0G prog 32 #[ptr c,.int .i64 2] (dkP c v d) (b0P (fun _:HN=>True) (fun x=>ptr x.heap) (fun x=>s1J x c n++dkP c v d)):=by
 have f:=h2D c v d;simp only[dkP];rw[hd]at f ⊢;refine en func32 ntmps32 fun R w0=> ?_;refine go 9 ?_;refine bx fun g=> ?_;refine cg 2 (f) ?_;refine ce 0 (k2E 2 n ((n+2:Nat):Int) (by omega) (by omega) (by omega)) ?_;rintro⟨bg,bgl⟩ _;refine ns ?_;refine(r0G (fun a=> ?_));refine(r0G (fun b=> ?_));refine e0X (fun w h=>x0R a0H a0H ((show Fnd _ (pts a _) _ from gFd).sat h)) ?_;refine e0X (fun w h=>x0R a0H a0H ((show Fnd _ (pts b _) _ from gFd).sat h)) ?_;refine go 1 ?_;refine bx fun e=> ?_;refine go 3 ?_;exact rE idh ({log:=g,gr:=bg,grl:=bgl,refs:=a,by_:=b,heap:=e} :HN) trivial
theorem m2P (a:Nat) (v:Value) (n:Nat) (b:n≤4000):a0G prog 32 #[ptr a,.int .i64 2] (dkN a v (n+2)) (b0P (fun _:HN=>True) (fun x=>ptr x.heap) (fun x=>s1J x a n++dkN a v (n+2))):=by
 have h:=x1G a v (k0Q (n+2)) n (by simp[k0Q]) (by omega);simp only[dkP,k0Q,List.length_replicate]at h;exact h
theorem m2Q (c:Nat) (bits:Nat) (hb:1≤bits∧bits≤256):a0G prog 85 #[ptr c,.int .i64 bits] [] (b0P (fun _:Nat×Nat=>True) (fun x=>ptr x.1) (fun x=> [pts x.1 (.cells #[ptr c,.int .i64 bits,.map (some x.2)] 210 (0,0)),b0K x.2 d0X a0H ([]:List (B×Int))])):=by
 refine en func85 ntmps85 fun R w0=> ?_;refine go 11 ?_;refine(r0G (fun b=> ?_));rw[show min (max ((bits:Nat):Int) 1) 256=(bits:Int) by omega];refine go 1 ?_;refine e0X (fun w h=>x0R d0X a0H ((show Fnd _ (pts b _) _ from gFd).sat h)) ?_;refine bx fun a=> ?_;refine go 3 ?_;exact rE idh (a,b) trivial
theorem m2R (b a:Nat):a0G prog 84 #[ptr b,ptr a] [] (b0P (fun _:Nat=>True) (fun x=>ptr x) (fun x=> [pts x (.cells #[ptr b,ptr a] 194 (0,0))])):=by
 refine en func84 ntmps84 fun R w0=> ?_;refine go 10 ?_;refine bx fun c=> ?_;refine go 3 ?_;exact rE idh c trivial
structure CN where
 st:Nat
 ix:Nat
 maps:Nat
 core:Nat
 vols:Nat
abbrev h2E (x:CN) (bh bits:Nat) (nx:Int):List a0E:= [pts x.st (.cells #[ptr bh,.int .i64 bits,.map (some x.ix)] 210 (0,0)),b0K x.ix d0X a0H ([]:List (B×Int)),pts x.maps (.cells #[ptr bh,ptr x.st] 194 (0,0)),
 b0K x.vols e0J e0E ([]:List (Int×Ent)),pts x.core (.cells #[ptr bh,ptr x.maps,.map (some x.vols),.int .u32 nx,.int .u32 1] 59 (0,0))]
theorem r1I (c bits:Nat) (b:Int) (hb:1≤bits∧bits≤256) (f:1≤b):a0G prog 31 #[ptr c,.int .i64 bits,.int .u32 b] [] (b0P (fun _:CN=>True) (fun x=>ptr x.core) (fun x=>h2E x c bits b)):=by
 refine en func31 ntmps31 fun R w0=> ?_;refine ce 11 (m2Q c bits hb) ?_;rintro⟨bs,bi⟩ _;refine ns ?_;refine ce 0 (m2R c bs) ?_;rintro e _;refine ns ?_;refine(r0G (fun a=> ?_));refine go 2 ?_;refine e0X (fun w h=>x0R e0J e0E ((show Fnd _ (pts a _) _ from gFd).sat h)) ?_;rw[show max b 1=b by omega];refine go 1 ?_;refine bx fun d=> ?_;refine go 3 ?_;exact rE idh ({st:=bs,ix:=bi,maps:=e,core:=d,vols:=a} :CN) trivial
abbrev adN (bd:Nat) (v:Value) (h:HN) (c:CN):Ad:= {disk:=bd,vd:=v,log:=h.log,gr:=h.gr,grl:=h.grl,refs:=h.refs,heap:=h.heap,st:=c.st,ix:=c.ix,maps:=c.maps,core:=c.core,vols:=c.vols}
theorem x1H {W w:World} {L:List a0E} {e n bits:Nat} {v:Value} {h:HN} {c:CN} {d:Dk} {b:Int} (hd:d.l.length=n+2) (i:l0N d) (C:n≤4094) (hb:1≤bits∧bits≤256) (q:1≤b)
 (B:Sat w (whole W::(dkP e v d++(s1J h e n++(h2E c h.heap bits b++L))))):Sat w (RS W (adN e v h c) (f0X d 2 bits b)++L):=by
 have f:(f0X d 2 bits b).bits=bits:=by show min (max bits 1) 256=bits;omega
 have j:(f0X d 2 bits b).g=List.replicate n 0:=by simp[f0X,hd]
 have k:(f0X d 2 bits b).next=b:=by show max b 1=b;omega
 have m:o0M (f0X d 2 bits b):=⟨by show 2≤5000;omega,by rw[j];simp;omega,fun x q=>by rw[j]at q;rw[List.eq_of_mem_replicate q];omega,by intro p A;cases A⟩;have r:=c0C (f0E 1 1 w B);have t:=q0D (a:=adN e v h c) (by_:=h.by_) (o:= []) (log:= []) (depth:=0) (v:= .slice none 0 0) (vals:= []) ⟨by simp,[],[],List.Perm.refl _,rfl,rfl,by simp⟩ (by omega)
  (by simp only[List.cons_append,List.nil_append];exact gSp) w r
 have u:=c0C t;have y:=c0W (a:=adN e v h c) (s:=f0X d 2 bits b) (by_:=h.by_) (gv:= .slice none 0 0) (gc:= []) (o:= []) ⟨by simp[f0X],.inl ⟨rfl,rfl,rfl⟩⟩ m
  (by rw[d0B,j,k];exact gSp) w u
 have z:=n0V (p:=l0N d) i w y;exact z.perm (show b0A _ [whole W,dkC (adN e v h c) d,dkR (adN e v h c) d,m0X (l0N d),stC (adN e v h c) (f0X d 2 bits b).bits,mpC (adN e v h c),HL (adN e v h c) (f0X d 2 bits b)] L by rw[f];exact gSp)
theorem w2J {W w:World} {L:List a0E} {a n bits:Nat} {v:Value} {h:HN} {c:CN} (f:n≤4000) (hb:1≤bits∧bits≤256)
 (b:Sat w (whole W::(dkN a v (n+2)++(s1J h a n++(h2E c h.heap bits 1++L))))):Sat w (RS W (adN a v h c) (f0X (k0Q (n+2)) 2 bits 1)++L):=
 x1H (d:=k0Q (n+2)) (n:=n) (by simp[k0Q]) ⟨fun x e=>by rw[List.eq_of_mem_replicate e];simp[a0L],by simp[k0Q];omega,by show 0<4611686018427387904;decide⟩ (by omega) hb (by decide) (by simp only[dkP,k0Q,List.length_replicate];exact b)
abbrev p1F (b core bits:Nat):a0E:=pts b (.cells #[ptr core,.slice none 0 0,.int .i64 1,.int .i64 bits,.int .i64 1] 37 (0,0))
theorem r2H (W:World) (n bits:Nat) (e:Int) (b:min (max e 1) 256=(bits:Int)) (d:n≤4000) (hb:1≤bits∧bits≤256):a0G prog 11 #[.int .i64 ((n+2:Nat):Int),.int .i64 e] [whole W] (b0P (fun _:Ad×Nat=>True) (fun x=> .tuple #[ptr x.2,.bool true]) (fun x=>RS W x.1 (f0X (k0Q (n+2)) 2 bits 1)++ [p1F x.2 x.1.core bits])):=by
 refine en func11 ntmps11 fun R w0=> ?_;refine go 11 ?_;rw[b];refine ce 6 (m2O (n+2) (by omega)) ?_;rintro⟨bd,v⟩ hv;refine ns ?_;refine ce 0 (m2P bd v n d) ?_;rintro h _;refine ns ?_;refine ce 1 (r1I h.heap bits 1 hb (by decide)) ?_;rintro c _;refine ns ?_;refine go 4 ?_;refine mx (.r 0 4 (.r 5 16 (.hard 4 (.r 21 2 .done)))) [pts c.core (.cells #[ptr h.heap,ptr c.maps,.map (some c.vols),.int .u32 1,.int .u32 1] 59 (0,0))] ?_;refine go 5 ?_;refine d0A rfl (d1X F.pt35 rfl rfl) ?_;refine go 5 ?_;refine t0D rfl (d1X F.pt55 rfl rfl) (wg rfl rfl rfl (wTT rfl)) ?_;refine go 6 ?_;refine t0D rfl (d1X F.pt56 rfl rfl) (wg rfl rfl rfl (wTT rfl)) ?_;refine go 2 ?_;refine bx fun a=> ?_;refine go 6 ?_;refine b0U (L':=RS W (adN bd v h c) (f0X (k0Q (n+2)) 2 bits 1)++ [p1F a c.core bits,R]) (fun w f=>w2J (L:= [p1F a c.core bits,R]) d hb (by simp only[List.cons_append,List.nil_append];exact f.re gSp)) ?_;refine ns ?_;exact rE idh (x:=((adN bd v h c,a):Ad×Nat)) trivial
theorem r1J (W:World) (n bits:Nat) (a:n≤4000) (hb:1≤bits∧bits≤256):a0G prog 11 #[.int .i64 ((n+2:Nat):Int),.int .i64 bits] [whole W] (b0P (fun _:Ad×Nat=>True) (fun x=> .tuple #[ptr x.2,.bool true]) (fun x=>RS W x.1 (f0X (k0Q (n+2)) 2 bits 1)++ [p1F x.2 x.1.core bits])):=r2H W n bits bits (by omega) a hb
theorem m1Z: ∀ {k:Nat} {x:Ent} {a n:Nat} {s t:St} {b:B},k0D k x a n s=(.ok b,t)→b.length≤64*n
 |0,x,a,n,s,t,b,h=>by cases h;simp
 |k+1,x,a,n,s,t,b,h=>by
  unfold k0D at h;split at h
  ·cases h;simp
  ·rename_i f;simp only at h;cases d:p0K x (a/4) s with
   |mk o u=>
    cases o with
    |ok v=>
     rw[a0A d]at h;cases c:k0D k x (a+min n (4-a%4)) (n-min n (4-a%4)) u with
     |mk o2 u2=>
      cases o2 with
      |ok r=>
       rw[a0A c]at h;cases h
       have:=m1Z c;rw[List.length_append,List.length_take];omega
      |err e=>rw[a0F c]at h;cases h
      |big=>unfold a0B at h;rw[c]at h;cases h
    |err e=>rw[a0F d]at h;cases h
    |big=>unfold a0B at h;rw[d]at h;cases h
theorem m2S {id at_ n:Int} {s t:St} {b:B} (h:o0S id at_ n s=(.ok b,t)):b.length≤1000000:=by
 unfold o0S at h;cases c:find id s with
 |mk o u=>
  cases o with
  |ok x=>
   rw[a0A c]at h;cases a:h0J x at_ n u with
   |mk o2 u2=>
    cases o2 with
    |ok v=>
     rw[a0A a]at h;obtain⟨_,d,f,g,i⟩:=w0V a;have:=m1Z h;omega
    |err e=>rw[a0F a]at h;cases h
    |big=>unfold a0B at h;rw[a]at h;cases h
  |err e=>rw[a0F c]at h;cases h
  |big=>unfold a0B at h;rw[c]at h;cases h
theorem r2I (W:World) (a:Ad) (s:St) (id at_ n:Int) (b:(n0Y id at_ n s).1≠ .big):
 a0G prog 19 #[ptr a.core,.int .u32 id,.int .i64 at_,.int .i64 n] (RS W a s) (Ran fT (RS W a) h2B (n0Y id at_ n s)):=h2C W a s id at_ n m2S b
def low (c:UInt8):UInt8:=UInt8.ofNat (c.toNat%4)
def h1K (c:UInt8):B:=List.replicate 64 (low c)
theorem y2R (c:UInt8):(c.toNat:Int)%4=((low c).toNat:Int):=by unfold low;rw[UInt8.toNat_ofNat'];omega
theorem h2F (c:UInt8):(List.replicate 64 [low c]).flatten=h1K c:=rfl
def o0U (l:B):B:=(l.take 12).flatMap h1K
theorem h2G {l:B} {i:Nat} (h:i<l.length) (a:i<12):o0U (l.take i)++h1K l[i]=o0U (l.take (i+1)):=by
 unfold o0U;rw[List.take_of_length_le (l:=l.take i) (by simp;omega),List.take_of_length_le (l:=l.take (i+1)) (by simp;omega),List.take_succ,List.getElem?_eq_getElem h,List.flatMap_append];simp
theorem r1K {l:B} {i:Nat} (h:l.length≤i∨12≤i) (a:i≤12):o0U (l.take i)=o0U l:=by
 unfold o0U;rw[List.take_take];rcases h with h|h
 ·rw[List.take_of_length_le (by omega),List.take_of_length_le (by omega)]
 ·rw[show min 12 i=12 by omega]
theorem r2J (l:B):(l.flatMap h1K).length=64*l.length:=by
 induction l with
 |nil=>rfl
 |cons c l ih=>rw[List.flatMap_cons,List.length_append,ih];simp[h1K];omega
theorem f1X (l:B):(o0U l).length=64*min 12 l.length:=by unfold o0U;rw[r2J,List.length_take]
set_option maxRecDepth 4000 in
theorem m2T (l:B):a0G prog 18 #[b0C l] [] (a0T (b0C (o0U l)) []):=by
 have f:(bs l).size=l.length:=b0H l;refine en func18 ntmps18 fun R w0=> ?_;refine go 17 ?_;refine a0V (X:= {i:Nat // i≤12∧i≤l.length}) (fun y=> [(0,b0C l),(3,b0C (o0U (l.take y.1))),(4,.int .i64 y.1)]) (fun y=> [R]) (fun y=>12-y.1) ⟨0,by omega,by omega⟩ gSu gSp ?_;rintro⟨i,hi,hil⟩ m0 hm0
 try simp only at hm0
 try dsimp only
 skip;refine go 2 ?_;by_cases c:i<l.length
 ·refine go 4 ?_;rw[b0H];refine go 7 ?_;refine a0O rfl (fun a=> ?_) (fun a=> ?_)
  ·have b:i<12:=by have:=of_decide_eq_true a;omega
   have d:(bs l).data.toList[((i:Nat):Int).toNat]? =some l[i]:=by rw[m0D,Int.toNat_natCast,List.getElem?_eq_getElem c]
   refine go 8 ?_;refine a0D (d1U Tst.o rfl rfl (by omega) (by assumption)) ?_;refine a0D (o0O rfl rfl) ?_;rw[z2N,y2R];refine bl fun e=> ?_;refine a0D (e1C Tsl.o Tst.o Tby.o rfl (l:= [low l[i]]) rfl rfl) ?_;refine cg 0 (c2B [low l[i]] 64 (by simp) (by omega)) ?_;rw[h2F];refine a0D (h0N rfl rfl (by rw[b0H,b0H,f1X];simp[h1K];omega)) ?_;rw[←h0U,h2G c b];refine go 8 ?_;exact rd idh (⟨i+1,b,c⟩)
  ·skip;refine go 8 ?_;exact rG (hu:=(by rw[r1K (.inr (by have:=of_decide_eq_false a;omega)) hi]))
 ·refine go 4 ?_;rw[b0H];refine go 16 ?_;exact rG (hu:=(by rw[r1K (.inl (by omega)) hi]))
abbrev a3A (x:Nat×Int):Value:= .agg #[.int .i64 x.1,.int .i64 x.2]
def JB {C:Type} (J Jx:C→a0E) (p:Bool×C):a0E:=if p.1 then J p.2 else Jx p.2
theorem r2K {C:Type} {J Jx:C→a0E} {p:Bool×C} (h:p.1=true):JB J Jx p=J p.2:=by unfold JB;rw[if_pos h]
theorem r2L {C:Type} {J Jx:C→a0E} {p:Bool×C} (h:p.1=false):JB J Jx p=Jx p.2:=by unfold JB;rw[if_neg (by rw[h];simp)]
abbrev h2H {C:Type} (r:Nat) (J Jx:C→a0E) (see:Nat×Int→C→Bool×C) (m:C→Nat) (bd:Nat):Prop:= ∀x c,m c<bd→b1M prog r #[a3A x] [J c] (fun e L'=>e= .returned (.bool (see x c).1)∧L'= [JB J Jx (see x c)])
abbrev f1Y (W:World) (a:Ad) (s:St) {C:Type} (r:Nat) (J Jx:C→a0E) (see:Nat×Int→C→Bool×C) (m:C→Nat) (bd:Nat) (level:Nat):Prop:= ∀(at_:Int) (from_:Nat) (c:C) (ys:List (Nat×Int)),lvs level from_ at_ s=some ys→m c+ys.length≤bd→from_+1000*level≤100000→
 a0G prog 256 #[ptr a.maps,.int .i64 at_,.int .i64 level,.int .i64 from_,.func (.yield r) #[] #[]] (RS W a s++ [J c]) (a0T (.bool (g0I see ys c).1) (RS W a s++ [JB J Jx (g0I see ys c)]))
theorem r2M {g:Nat→Int→Option (List (Nat×Int))} {i:Nat} {kids:List Int} {ys:List (Nat×Int)} (hi:i<kids.length) (h:lvK g i (kids.drop i)=some ys): ∃a b,g i (kids.getD i 0)=some a∧lvK g (i+1) (kids.drop (i+1))=some b∧ys=a++b:=by
 rw[List.drop_eq_getElem_cons hi]at h;unfold lvK at h;obtain⟨a,c,d⟩:=Option.bind_eq_some_iff.1 h;obtain⟨b,e,f⟩:=Option.map_eq_some_iff.1 d;exact⟨a,b,by rw[List.getD_eq_getElem?_getD,List.getElem?_eq_getElem hi];exact c,e,f.symm⟩
theorem f1Z {C:Type} (see:Nat×Int→C→Bool×C) (x:Nat×Int) (l:List (Nat×Int)) (c:C):g0I see (x::l) c=if(see x c).1 then g0I see l (see x c).2 else(false,(see x c).2):=rfl
theorem p1G {C:Type} {see:Nat×Int→C→Bool×C} {mu:C→Nat} (a: ∀x c,mu (see x c).2≤mu c+1): ∀(l:List (Nat×Int)) (c:C),mu (g0I see l c).2≤mu c+l.length
 | [],c=>by show mu c≤_;omega
 |x::l,c=>by
  rw[f1Z];have b:=a x c;split
  ·have d:=p1G a l (see x c).2;simp only[List.length_cons];omega
  ·simp only[List.length_cons];omega
theorem r2N {C:Type} (see:Nat×Int→C→Bool×C) (c:C):g0I see [] c=(true,c):=rfl
theorem w2K {s:St} {from_ a i:Nat} {k:Int} {xs:List (Nat×Int)} (b:k=0) (h:g1S s from_ a i k=some xs):xs= []:=by
 subst b;cases a<;>exact(Option.some.inj h).symm
theorem w2L {s:St} {from_ a i:Nat} {k:Int} {xs:List (Nat×Int)} (d:a=0) (c: ¬k=0) (h:g1S s from_ a i k=some xs):xs= [(from_+i,k)]:=by
 subst d;have b:some (if k=0 then []else [(from_+i,k)])=some xs:=h;rw[if_neg c]at b;exact(Option.some.inj b).symm
theorem w2M {s:St} {from_ m i:Nat} {k:Int} {xs:List (Nat×Int)} (b: ¬k=0) (h:g1S s from_ (m+1) i k=some xs):lvs m (from_+i*8^(m+1)) k s=some xs:=by
 have a:(if k=0 then some []else lvs m (from_+i*8^(m+1)) k s)=some xs:=h
 rwa [if_neg b]at a
theorem pow8 {l:Nat} (h:l<3):1≤8^l∧8^l≤64∧8^(l+1)/8=8^l:=by
 rcases l with _|_|_|l
 ·decide
 ·decide
 ·decide
 ·omega
theorem i1F (W:World) (a:Ad) (s:St) {C:Type} (r:Nat) (J Jx:C→a0E) (see:Nat×Int→C→Bool×C) (mu:C→Nat) (t:Nat) (E: ∀x c,mu (see x c).2≤mu c+1) (U:h2H r J Jx see mu t) (b:Nat) (O:b<3) (V: ∀m,b=m+1→f1Y W a s r J Jx see mu t m):f1Y W a s r J Jx see mu t b:=by
 intro at_ from_ c ys q I Z;rw[x2V]at q;obtain⟨n,Q⟩: ∃n,(Go.Sb.load at_ b s).1= .ok n:=by
  cases S:(Go.Sb.load at_ b s).1 with
  |ok n=>exact⟨n,rfl⟩
  |err e=>rw[S]at q;cases q
  |big=>rw[S]at q;cases q
 rw[Q]at q;have q:lvK (g1S s from_ b) 0 n.kids=some ys:=q;have p:Go.Sb.load at_ b s=(.ok n,s):=by
  have w:Go.Sb.load at_ b s=(.ok n,(Go.Sb.load at_ b s).2):=by rw[←Q]
  have z:=(h0Q w).1;rw[w,z]
 have B:=(h0Q p).2;have k:=p0F W a s at_ b;rw[p]at k;have u:=k.ran_ok;have Y:n.kids.length=8:=B.n;obtain⟨p1,p2,p3⟩:=pow8 O;obtain⟨sp,G⟩: ∃sp,sp=8^b:=⟨_,rfl⟩;rw[←G]at p1 p2 p3;refine ns ?_;refine en func256 ntmps256 fun R w0=> ?_;refine cg 8 (q1Q b O) ?_;refine go 1 ?_;rw[show(((8^(b+1):Nat):Int))/8=(sp:Int) by omega];refine cg 9 (u) ?_;refine a0D (n0S (v:=(n.kids.map a0H).toArray) F.fa182_1 rfl (d1J B)) ?_;refine go 4 ?_;refine a0V (X:= {y:Nat×C×List (Nat×Int) // y.1≤8∧lvK (g1S s from_ b) y.1 (n.kids.drop y.1)=some y.2.2∧mu y.2.1+y.2.2.length≤t∧g0I see ys c=g0I see y.2.2 y.2.1}) (fun y=> [(0,ptr a.maps),(2,.int .i64 b),(3,.int .i64 from_),(4,.func (.yield r) #[] #[]),(11,.int .i64 sp),(21,.agg (n.kids.map a0H).toArray),(22,.int .i64 y.1.1)]) (fun y=>RS W a s++ [J y.1.2.1,R]) (fun y=>8-y.1.1) ⟨(0,c,ys),Nat.zero_le 8,q,I,rfl⟩ gSu gSp ?_;rintro⟨⟨i,c',zs⟩,hi,hz,hb,he⟩ m0 hm0
 try simp only at hm0
 try dsimp only
 simp only at hi hz hb he;refine ns ?_;refine go 6 ?_;refine a0O rfl (fun f=> ?_) (fun f=> ?_)
 ·have T:i<8:=by have:=of_decide_eq_true f;omega
  obtain⟨xs,ws,w,z,rfl⟩:=r2M (by omega) hz;rw[List.length_append]at hb;refine go 7 ?_;refine a0D (o0P Tar.o Sc.o rfl rfl (by omega) (i0E a0H n.kids i _ (by omega) (by omega))) ?_;rw[←c1X (l:=n.kids) (by omega)];refine go 6 ?_;by_cases A:n.kids.getD i 0=0
  ·refine go 6 ?_;refine d0P rfl (by rw[A];rfl) ?_;refine go 6 ?_;have L:xs= []:=w2K A w;rw[L,List.nil_append]at he;exact rd idh (⟨(i+1,c',ws),by(show i+1≤8);omega,z,by(show mu c'+ws.length≤t);omega,he⟩)
  ·refine go 6 ?_;refine b0S rfl (by simpa using A) ?_;refine go 1 ?_;by_cases D:b=0
   ·refine go 6 ?_;refine d0P rfl (by rw[D];rfl) ?_;refine go 1 ?_;have H:xs= [(from_+i,n.kids.getD i 0)]:=w2L D A w;have K:=E (from_+i,n.kids.getD i 0) c';rw[H,List.length_singleton]at hb;rw[H,List.singleton_append,f1Z]at he;refine b1N ?_;refine u0G (d0H rfl) ?_;refine u0G (d0H rfl) ?_;refine u0G (d0H rfl) ?_;refine u0G (s1L rfl rfl (by omega)) ?_;rw[show((from_:Nat):Int)+((i:Nat):Int)=((from_+i:Nat):Int) by omega];refine u0G (d0H rfl) ?_;refine u0G (s0P Pl.o rfl (by simp[m0O,nth,Value.cells]<;>rfl)) ?_;refine i1S rfl rfl (U (from_+i,n.kids.getD i 0) c' (by omega)) gSp ?_;refine ns ?_;refine u0G (v0A rfl) ?_;refine s1V ?_;refine go 1 ?_;refine a0O rfl (fun g=> ?_) (fun g=> ?_)
    ·have d:(see (from_+i,n.kids.getD i 0) c').1=false:=by have h:=g;simpa using h
     rw[if_neg (by rw[d];simp)]at he;rw[r2L d,he];refine go 5 ?_;exact rG
    ·have d:(see (from_+i,n.kids.getD i 0) c').1=true:=by have h:=g;simpa using h
     rw[if_pos d]at he;rw[r2K d];refine go 6 ?_;exact rd idh (⟨(i+1,(see (from_+i,n.kids.getD i 0) c').2,ws),by(show i+1≤8);omega,z,by(show mu (see (from_+i,n.kids.getD i 0) c').2+ws.length≤t);omega,he⟩)
   ·refine go 8 ?_;obtain⟨m,rfl⟩: ∃m,b=m+1:=⟨b-1,by omega⟩;have M:lvs m (from_+i*sp) (n.kids.getD i 0) s=some xs:=by rw[G];exact w2M A w
    have P:i*sp≤7*64:=Nat.mul_le_mul (by omega) p2;refine go 5 ?_;rw[show(((m+1:Nat):Int))-1=(m:Int) by omega];refine go 5 ?_;rw[show((from_:Nat):Int)+((i:Nat):Int)*((sp:Nat):Int)=((from_+i*sp:Nat):Int) by rw[Int.natCast_add,Int.natCast_mul]];refine cg 1 (V m rfl (n.kids.getD i 0) (from_+i*sp) c' xs M (by omega) (by omega)) ?_;refine go 1 ?_;rw[u1G]at he;have K:=p1G E xs c';refine go 3 ?_;refine a0O rfl (fun j=> ?_) (fun j=> ?_)
    ·have d:(g0I see xs c').1=false:=by have h:=j;simpa using h
     rw[if_neg (by rw[d];simp)]at he;rw[r2L d,he];refine go 5 ?_;exact rG
    ·have d:(g0I see xs c').1=true:=by have h:=j;simpa using h
     rw[if_pos d]at he;rw[r2K d];refine go 6 ?_;exact rd idh (⟨(i+1,(g0I see xs c').2,ws),by(show i+1≤8);omega,z,by(show mu (g0I see xs c').2+ws.length≤t);omega,he⟩)
 ·obtain rfl:i=8:=by have:=of_decide_eq_false f;omega
  have N:zs= []:=by rw[List.drop_of_length_le (by omega)]at hz;unfold lvK at hz;exact(Option.some.inj hz).symm
  rw[N,r2N]at he;rw[he];refine go 7 ?_;exact rG
theorem r1L (W:World) (a:Ad) (s:St) {C:Type} (r:Nat) (J Jx:C→a0E) (see:Nat×Int→C→Bool×C) (mu:C→Nat) (d:Nat) (b: ∀x c,mu (see x c).2≤mu c+1) (f:h2H r J Jx see mu d): ∀level,level<3→f1Y W a s r J Jx see mu d level
 |0,h=>i1F W a s r J Jx see mu d b f 0 h (fun m e=>by omega)
 |l+1,h=>i1F W a s r J Jx see mu d b f (l+1) h (fun m e=>by have g:m=l:=(Nat.succ.inj e).symm;rw[g];exact r1L W a s r J Jx see mu d b f l (by omega))
abbrev u0Z (b:Nat) (a:Ad):a0E:=pts b (.cells #[ptr a.maps] 56 (0,0))
theorem m2U (W:World) (a:Ad) (s:St) (root:Int) (b0 b:Nat) {C:Type} (r:Nat) (J Jx:C→a0E) (see:Nat×Int→C→Bool×C) (mu:C→Nat) (d:Nat) (f: ∀x c,mu (see x c).2≤mu c+1) (h:h2H r J Jx see mu d) (c:C) (ys:List (Nat×Int)) (g:lvs 2 0 root s=some ys) (e:mu c+ys.length≤d):
 a0G prog 255 #[.func (.yield r) #[] #[],ptr b0,ptr b] (RS W a s++ [u0Z b0 a,f0W b root,J c]) (a0T (.tuple #[]) (RS W a s++ [u0Z b0 a,f0W b root,JB J Jx (g0I see ys c)])):=by
 refine ns ?_;refine en func255 ntmps255 fun R w0=> ?_;refine cg 4 (r1L W a s r J Jx see mu d f h 2 (by omega) root 0 c ys g e (by omega)) ?_;refine go 1 ?_;refine d0Q rfl rfl gSp
theorem r2O (a:Ad) (root:Int):a0G prog 205 #[ptr a.maps,.int .i64 root] [] (b0P (fun _:Nat×Nat=>True) (fun x=> .func (.func 255) #[] #[ptr x.1,ptr x.2]) (fun x=> [u0Z x.1 a,f0W x.2 root])):=by
 refine en func205 ntmps205 fun R w0=> ?_;refine go 2 ?_;refine bx fun b=> ?_;refine bx fun c=> ?_;refine go 9 ?_;exact rE idh ((b,c):Nat×Nat) trivial
abbrev w0W (x:Nat×Int):List Value:= [.int .i64 x.1,.int .i64 x.2]
abbrev lvA (b6 b7 b9 from_ upto:Nat) (out:List (Nat×Int)) (v:Value):List a0E:= [pts b9 (.cells #[v] 241 (0,0)),b0I 244 2 v out.length (out.flatMap w0W),f0W b6 from_,f0W b7 upto]
abbrev lvJ (b6 b7 b9 from_ upto l:Nat) (rec:Loop) (x:Option Code) (out:List (Nat×Int)):a0E:=ex fun v:Value=>b0E (pts l (.loop (j0B rec x))::lvA b6 b7 b9 from_ upto out v)
theorem p1H {b c d from_ a l:Nat} {rec:Loop} {x:Option Code} {out:List (Nat×Int)} {w:World} {M:List a0E} (v:Value) (h:Sat w (pts l (.loop (j0B rec x))::(lvA b c d from_ a out v++M))):Sat w (lvJ b c d from_ a l rec x out::M):=g0K.2 ⟨v,b0M.2 h⟩
theorem m2V (from_ a:Nat) (x:Nat×Int) (c:List (Nat×Int)):(d0L from_ a x c).2.length≤c.length+1:=by unfold d0L;split<;>(try split)<;>simp
theorem a2E (W:World) (a:Ad) (s:St) (root:Int) (from_ d:Nat) (ys:List (Nat×Int)) (S:lvs 2 0 root s=some ys) (H:ys.length≤512):a0G prog 168 #[ptr a.maps,.int .i64 root,.int .i64 from_,.int .i64 d] (RS W a s)
 (b0P (fun _:Value=>True) id (fun v=>RS W a s++ [b0I 244 2 v (g0I (d0L from_ d) ys []).2.length ((g0I (d0L from_ d) ys []).2.flatMap w0W)])):=by
 refine z0S func168 rfl ntmps168 rfl (fun R w0=> ?_);simp only[j0X,List.cons_append,List.nil_append];refine go 2 ?_;refine bx fun f=> ?_;refine bx fun g=> ?_;refine go 5 ?_;refine al fun i=> ?_;refine go 4 ?_;refine b0U (fun w h=>f0E 244 2 w h) ?_;refine ce 3 (r2O a root) ?_;rintro⟨p0,p1⟩ _;refine ns ?_;refine go 3 ?_;refine i1V (X:=Bool×List (Nat×Int)) (ok:=fun p=>p=g0I (d0L from_ d) ys []) (v:=fun _=> .tuple #[]) (jump:=fun p=>if p.1 then none else some (.exit 0)) (N:=fun p=>RS W a s++ [u0Z p0 a,f0W p1 root,ex fun v:Value=>b0E (lvA f g i from_ d p.2 v)]) rfl Hb.o (show b0A _ (RS W a s++([u0Z p0 a,f0W p1 root]++lvA f g i from_ d [] (.slice none 0 0))) _ from gSp) ?_ ?_ ?_
 ·intro l D fn tmps E C rec q;refine n1V (fun w F h=> ?_) (m2U W a s root p0 p1 l (lvJ f g i from_ d l rec none) (lvJ f g i from_ d l rec (some (.exit 0))) (d0L from_ d) List.length 512 (m2V from_ d) (fun x c T=> ?_) [] ys S (by simpa using H)) (fun e L Q=> ?_)
  ·simp only[List.cons_append,List.nil_append]at h ⊢;have t:Sat w (b0E (pts l (.loop (j0B rec none))::lvA f g i from_ d [] (.slice none 0 0))::(RS W a s++ [u0Z p0 a,f0W p1 root,F])):=b0M.2 (by simp only[List.cons_append,List.nil_append];subst q;exact h.re gSp);have r:Sat w (lvJ f g i from_ d l rec none []::(RS W a s++ [u0Z p0 a,f0W p1 root,F])):=g0K.2 ⟨_,t⟩;simp only[List.cons_append,List.nil_append]at r;exact r.re gSp
  rotate_left
  ·obtain⟨rfl,rfl⟩:=Q;refine⟨_,⟨g0I (d0L from_ d) ys [],rfl,rfl,rfl⟩,fun w F h=> ?_⟩
   revert h
   generalize g0I (d0L from_ d) ys []=p;obtain⟨b,out⟩:=p;intro h;simp only[List.cons_append,List.nil_append]at h ⊢;cases b with
   |false=>
    rw[r2L rfl]at h;have t:Sat w (lvJ f g i from_ d l rec (some (.exit 0)) out::(RS W a s++ [u0Z p0 a,f0W p1 root,F])):=by simp only[List.cons_append,List.nil_append];exact h.re gSp
    obtain⟨v,r⟩:=g0K.1 t;have u:=b0M.1 r;simp only[List.cons_append,List.nil_append]at u;have B:Sat w (b0E (lvA f g i from_ d out v)::(pts l (.loop (j0B rec (some (.exit 0))))::(RS W a s++ [u0Z p0 a,f0W p1 root,F]))):=b0M.2 (by simp only[List.cons_append,List.nil_append];exact u.re gSp);have y:Sat w ((ex fun v=>b0E (lvA f g i from_ d out v))::(pts l (.loop (j0B rec (some (.exit 0))))::(RS W a s++ [u0Z p0 a,f0W p1 root,F]))):=g0K.2 ⟨v,B⟩;simp only[List.cons_append,List.nil_append]at y;exact y.re gSp
   |true=>
    rw[r2K rfl]at h;have t:Sat w (lvJ f g i from_ d l rec none out::(RS W a s++ [u0Z p0 a,f0W p1 root,F])):=by simp only[List.cons_append,List.nil_append];exact h.re gSp
    obtain⟨v,r⟩:=g0K.1 t;have u:=b0M.1 r;simp only[List.cons_append,List.nil_append]at u;have B:Sat w (b0E (lvA f g i from_ d out v)::(pts l (.loop (j0B rec none))::(RS W a s++ [u0Z p0 a,f0W p1 root,F]))):=b0M.2 (by simp only[List.cons_append,List.nil_append];exact u.re gSp);have y:Sat w ((ex fun v=>b0E (lvA f g i from_ d out v))::(pts l (.loop (j0B rec none))::(RS W a s++ [u0Z p0 a,f0W p1 root,F]))):=g0K.2 ⟨v,B⟩;simp only[List.cons_append,List.nil_append]at y;exact y.re gSp
  refine i1W fun v=> ?_;subst q;refine z0R rfl E C rfl (fun A w2=> ?_);refine ns ?_;skip;refine p0A (by repeat (first|exact p0C|exact v0N|apply q0O|apply p0B)) rfl ?_;refine al fun O=> ?_;refine(a0M Sz.o rfl rfl (by first|rfl|simp) (by simp[Value.oneCell']) (by simp[Value.cells]) (by simp[j0I,Value.cells]<;>rfl) ?_);refine go 1 ?_;refine i1U rfl gFd ?_;refine i1T ?_;refine s1W ?_;refine s1W ?_;refine p0A (by repeat (first|exact p0C|exact v0N|apply q0O|apply p0B)) rfl ?_;refine go 5 ?_;refine n1T idh ?_;refine s2I rfl (fun j=> ?_) (fun j=> ?_)
  ·have n:d≤x.1:=by have h:=j;simp only[decide_eq_true_eq]at h;omega
   have z:d0L from_ d x c=(false,c):=by unfold d0L;rw[if_pos n]
   rw[z];refine t2G ?_;repeat (first|with_reducible refine m0I ?_|with_reducible refine q0P ?_|with_reducible refine n0X rfl ?_)
   refine d2V gFd (fun w h=>⟨_,⟨rfl,rfl⟩,p1H (M:= [A]) v ?_⟩) rfl;simp only[List.cons_append,List.nil_append]at h ⊢;exact h.sub gSp
  ·have n: ¬d≤x.1:=by have h:=j;simp only[decide_eq_false_iff_not]at h;omega
   refine a2U ?_;refine n1T idh ?_;refine s1W ?_;refine p0A (by repeat (first|exact p0C|exact v0N|apply q0O|apply p0B)) rfl ?_;refine go 5 ?_;refine n1T idh ?_;refine s2I rfl (fun m=> ?_) (fun m=> ?_)
   ·have z:d0L from_ d x c=(true,c++ [x]):=by unfold d0L;rw[if_neg n,if_pos (by have h:=m;simp only[decide_eq_true_eq]at h;omega)]
    rw[z];refine p0A (by repeat (first|exact p0C|exact v0N|apply q0O|apply p0B)) rfl ?_;refine go 2 ?_;refine bl fun P=> ?_;refine(d0E Tsl.o Ttb.o Zr.o rfl rfl rfl gFd (f0I Tsl.o (by simp;rfl) (by simp) (by simp[Value.oneCell'])) (by simp only[maxLen];omega) (by omega) (fun I K=> ?_));refine go 2 ?_;rw[show c.flatMap w0W++ [Value.int .i64 x.1,Value.int .i64 x.2]=(c++ [x]).flatMap w0W by simp,show c.length+1=(c++ [x]).length by simp];repeat (first|with_reducible refine m0I ?_|with_reducible refine q0P ?_|with_reducible refine n0X rfl ?_)
    refine y0X gFd (fun w h=>⟨_,⟨rfl,rfl⟩,p1H (M:= [A]) I ?_⟩) rfl;simp only[List.cons_append,List.nil_append]at h ⊢;exact h.sub gSp
   ·have z:d0L from_ d x c=(true,c):=by unfold d0L;rw[if_neg n,if_neg (by have h:=m;simp only[decide_eq_false_iff_not]at h;omega)]
    rw[z];refine a2U ?_;repeat (first|with_reducible refine m0I ?_|with_reducible refine q0P ?_|with_reducible refine n0X rfl ?_)
    refine y0X gFd (fun w h=>⟨_,⟨rfl,rfl⟩,p1H (M:= [A]) v ?_⟩) rfl;simp only[List.cons_append,List.nil_append]at h ⊢;exact h.sub gSp
 ·intro D x G J;subst G;refine go 2 ?_;refine ns ?_;refine v0M (show Fnd _ (ex fun v:Value=>b0E (lvA f g i from_ d (g0I (d0L from_ d) ys []).2 v)) _ from gFd) fun v=> ?_;refine ns ?_;refine go 5 ?_;exact g1L idh rfl gSp ⟨v,trivial,rfl,rfl⟩
 ·intro D x k G J;subst G;obtain rfl:k= .exit 0:=by split at J<;>simp_all
  refine go 3 ?_;refine ns ?_;refine v0M (show Fnd _ (ex fun v:Value=>b0E (lvA f g i from_ d (g0I (d0L from_ d) ys []).2 v)) _ from gFd) fun v=> ?_;refine ns ?_;refine go 5 ?_;exact g1L idh rfl gSp ⟨v,trivial,rfl,rfl⟩
end Go.Proofs.Q

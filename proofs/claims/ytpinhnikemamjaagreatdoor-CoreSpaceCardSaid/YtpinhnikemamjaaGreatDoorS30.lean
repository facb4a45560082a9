/- Part of the proof; no statement of its own. -/
import Derived.Test.YtpinhnikemamjaaGreatDoorS23
import Derived.Test.YtpinhnikemamjaaGreatDoorS18
import Derived.Test.YtpinhnikemamjaaGreatDoorS29
import Derived.Test.YtpinhnikemamjaaGreatDoorS24
import Derived.Test.YtpinhnikemamjaaGreatDoorS21
import Derived.Test.YtpinhnikemamjaaGreatDoorS16
import Derived.Test.YtpinhnikemamjaaGreatDoorS06
import Derived.Test.YtpinhnikemamjaaGreatDoorS13
set_option linter.all false
set_option maxRecDepth 4000
set_option maxHeartbeats 4000000
attribute [local irreducible] Go.Sl.a0P Go.Sl.OW Go.Sl.CW Go.Sl.OS Go.Sl.OM Go.Sl.OMf Go.Sl.KM
namespace Go.Proofs.Q
open Go.Sl Go.Sb Tryz
abbrev r2G (b:Nat) (x:B):a0E:=pts b (.cells #[b0C x] 9 (0,0))
theorem w2G (id:Int):PB (find id):=fun s=>by unfold find;split<;>rfl
theorem k1G (id:Int):PB (l0Z id):=b0L (w2G id) fun x=>i0F (h1E _) (c0V _)
theorem x1F: ∀k x a d,PB (j0S k x a d)
 |0,x,a,d=>c0V _
 |k+1,x,a,d=>by
  unfold j0S;exact i0F (c0V _) (b0L (v2U _ _) fun _=>b0L (c2V _ _ _) fun _=>x1F k _ _ _)
theorem w0V {x:Ent} {at_ n:Int} {s t:St} {u:Unit} (h:h0J x at_ n s=(.ok u,t)):t=s∧0≤at_∧0≤n∧at_+n≤x.size∧x.size≤5000:=by
 unfold h0J at h;split at h
 ·cases h
 ·unfold l0U at h;split at h
  ·cases h
  ·cases h;exact⟨rfl,by omega,by omega,by omega,by omega⟩
abbrev d2A (a:Ad) (b0 b1 b2 b3:Nat) (id at_:Int) (data:B):a0E:=b0E [f0G b0 a,j0V b1 id,r2G b2 data,f0W b3 at_]
theorem a2C (W:World) (hW:i0L W) (a:Ad) (b0 b1 b2 b3:Nat) (id at_:Int) (data:B) (bits:Nat) (hbits:bits≤256) (hdl:data.length≤100000):
 r0U W a (d2A a b0 b1 b2 b3 id at_ data) (fun _:Unit=>b0E []) 65 [ptr b0,ptr b1,ptr b2,ptr b3] bits (i0X id at_ data):=by
 intro s hsb hnb;have e0:i0X id at_ data s=a0B (l0Z id) (fun x=>if data.length%64≠0 then n0L 4 else a0B (h0J x at_ (data.length/64:Nat)) fun _=>a0B (e0T x at_.toNat data) m0H) s:=rfl;refine ns ?_;refine en func65 ntmps65 fun R w0=> ?_;refine l0C (show Fnd _ (b0E [f0G b0 a,j0V b1 id,r2G b2 data,f0W b3 at_]) _ from gFd) ?_;refine ns ?_;refine go 4 ?_;refine a0U rfl Hb.o rfl (d1K W a s id) gSp (fun x t ho=> ?_) (fun e t ho=>by refine pn ?_;(refine b0F (fun w h=>c0C h) ?_;exact b0W (c0S (e0.trans (a0F ho))) idh gSp));refine ns ?_;have hpb:=k1G id s;rw[ho]at hpb;have hpb:t.bits=s.bits:=hpb;have e1:=e0.trans (a0A ho);clear ho;refine al fun b4=> ?_;refine go 8 ?_;rw[b0H];refine go 4 ?_;refine a0O rfl (fun hb11=> ?_) (fun hb11=> ?_)
 ·have hm:data.length%64≠0:=by have h:=hb11;simp only[bne_iff_ne,ne_eq]at h;omega
  refine b0U (fun w h=>c0C h) ?_;refine go 1 ?_;refine c0A rfl Hb.o rfl (c0M 4) gSp ?_;refine ns ?_;refine pn ?_;exact b0W (c0S (e1.trans (by rw[if_pos hm];rfl))) idh gSp
 ·have hm: ¬data.length%64≠0:=by have h:=hb11;simp only[bne_eq_false_iff_eq]at h;omega
  rw[if_neg hm]at e1;refine go 8 ?_;rw[b0H];refine go 1 ?_;rw[show((data.length:Nat):Int)/64=((data.length/64:Nat):Int) by omega];refine a0U rfl Hb.o rfl (a1F W a t x at_ ((data.length/64:Nat):Int) (by rw[e1]at hnb;exact c0I hnb)) gSp (fun v t2 ho=> ?_) (fun e t ho=>by refine pn ?_;(refine b0F (fun w h=>c0C h) ?_;exact b0W (c0S (e1.trans (a0F ho))) idh gSp));refine ns ?_;refine go 1 ?_;obtain⟨h1,h2,h3,h4,h5⟩:=w0V ho;rw[h1]at ho ⊢;have e2:=e1.trans (a0A ho);clear ho;obtain⟨k,rfl⟩: ∃k:Nat,at_=k:=⟨at_.toNat,by omega⟩;rw[Int.toNat_natCast]at e2;refine go 6 ?_;refine a0U rfl Hb.o rfl (m1R W hW a t b4 x k data (by omega) (by omega) (by rw[e2]at hnb;exact c0I hnb)) gSp (fun v ⟨t3,ox⟩ ho=> ?_) (fun e t ho=>by refine pn ?_;(obtain⟨t1,t2⟩:=t;obtain⟨hx,hm⟩:=r0B ho;obtain rfl:t2=none:=congrArg Prod.snd hx;have hm:_=(Out.err e,t1):=hm;simp only[RSo,List.cons_append,List.nil_append];have e4:i0X id (k:Int) data s=(.err e,t1):=e2.trans (a0F hm);refine b0F (fun w h=>c0C h) ?_;exact b0W (c0S e4) idh gSp));refine ns ?_;refine go 1 ?_;obtain⟨y,hx,hm⟩:=s0Z ho;obtain rfl:ox=some y:=congrArg Prod.snd hx;have hm:_=(Out.ok y,t3):=hm;simp only[RSo,List.cons_append,List.nil_append];have e3:i0X id (k:Int) data s=m0H y t3:=e2.trans (a0A hm);refine go 4 ?_;refine a0U rfl Hb.o rfl (v0Y W a t3 y (by rw[e3]at hnb;exact hnb)) gSp (fun v t4 ho=> ?_) (fun e t ho=>by refine pn ?_;(refine b0F (fun w h=>c0C h) ?_;exact b0W (c0S (e3.trans ho)) idh gSp));refine ns ?_;refine go 1 ?_;refine b0F (fun w h=>c0C h) ?_;exact fR (s:=(t4,.done ())) (m0W (e3.trans ho))
theorem a2D (W:World) (hW:i0L W) (a:Ad) (s:St) (id at_:Int) (data:B) (hbits:s.bits≤256) (hdl:data.length≤100000) (hvl:s.vols.length≤1000) (hnb:(h0K id at_ data s).1≠ .big):
 a0G prog 21 #[ptr a.core,.int .u32 id,.int .i64 at_,b0C data] (RS W a s) (Ran fT (RS W a) a0H (h0K id at_ data s)):=by
 have e0:h0K id at_ data s=a0B (i0K (e0M 0 (i0X id at_ data))) (fun r=>ret r.1) s:=rfl;refine en func21 ntmps21 fun R w0=> ?_;refine go 2 ?_;refine bx fun b4=> ?_;refine bx fun b5=> ?_;refine bx fun b6=> ?_;refine bx fun b7=> ?_;refine go 7 ?_;refine e0X (l0O (N:= [f0G b4 a,j0V b5 id,r2G b7 data,f0W b6 at_]) gSp) ?_;refine a0U rfl Hb.o rfl (w0A W a (d2A a b4 b5 b7 b6 id at_ data) (fun _:Unit=>b0E []) 0 65 [ptr b4,ptr b5,ptr b7,ptr b6] (i0X id at_ data) s Hb.o (by omega) hvl (a2C W hW a b4 b5 b7 b6 id at_ data s.bits hbits hdl) (by rw[e0]at hnb;exact c0I hnb)) gSp (fun e ⟨t,oc⟩ ho=> ?_) (fun e t ho=>by refine pn ?_;(exact(m0T ho).elim));refine ns ?_;refine go 3 ?_;exact rR idh (e0.trans (a0A (t0A ho)))
section
def rdR (k:Nat) (x:Ent) (at_ n:Nat) (acc:B) (s:St):Out B×St:=a0B (k0D k x at_ n) (fun r=>ret (acc++r)) s
section
variable {k:Nat} {x:Ent} {at_ n:Nat} {acc b:B} {s t:St} {e:Int}
theorem w2H:rdR k x at_ 0 acc s=(.ok acc,s):=by unfold rdR a0B;cases k<;>simp[k0D,ret]
theorem w2I (hn:n≠0) (h:p0K x (at_/4) s=(.err e,t)):rdR (k+1) x at_ n acc s=(.err e,t):=by
 unfold rdR
 conv=>lhs;unfold k0D
 rw[if_neg hn];rw[a0F];exact a0F h
theorem y2Q (hn:n≠0) (h:p0K x (at_/4) s=(.ok b,t)):rdR (k+1) x at_ n acc s=rdR k x (at_+min n (4-at_%4)) (n-min n (4-at_%4)) (acc++(b.drop (at_%4*64)).take (min n (4-at_%4)*64)) t:=by
 unfold rdR
 conv=>lhs;unfold k0D
 rw[if_neg hn];dsimp only;unfold a0B;rw[h];dsimp only;cases k0D k x (at_+min n (4-at_%4)) (n-min n (4-at_%4)) t with
 |mk o u=>cases o<;>simp[ret]
end
theorem m2K (b:B) (f m:Nat):(bs b).extract ((f:Int)*64).toNat ((((f:Int)+(m:Int)))*64).toNat=bs ((b.drop (f*64)).take (m*64)):=by
 rw[show((f:Int)*64).toNat=f*64 by omega,show((((f:Int)+(m:Int)))*64).toNat=(f+m)*64 by omega,l1V,List.drop_take,show(f+m)*64-f*64=m*64 by omega]
def m1X (b:Nat) (out:B):a0E:=ex fun x:Value×Value=>b0E (m0X (out= []→x.2= .slice none 0 0)::u0R b x.1 x.2 out)
abbrev m2L (a:Ad) (b0 b1 b2 b3 b4:Nat) (id at_ n:Int):a0E:=b0E ([f0G b0 a,j0V b1 id,f0W b2 at_,f0W b3 n]++u0R b4 (.pointer none) (.slice none 0 0) [])
set_option maxRecDepth 4000 in
theorem h2A (W:World) (a:Ad) (b0 b1 b2 b3 b4:Nat) (id at_ n:Int) (bits:Nat):
 r0U W a (m2L a b0 b1 b2 b3 b4 id at_ n) (m1X b4) 58 [ptr b0,ptr b1,ptr b2,ptr b3,ptr b4] bits (o0S id at_ n):=by
 intro s hsb hnb;have e0:o0S id at_ n s=a0B (find id) (fun x=>a0B (h0J x at_ n) fun _=>k0D n.toNat x at_.toNat n.toNat) s:=rfl;refine ns ?_;refine en func58 ntmps58 fun R w0=> ?_;refine l0C (show Fnd _ (b0E ([f0G b0 a,j0V b1 id,f0W b2 at_,f0W b3 n]++u0R b4 (.pointer none) (.slice none 0 0) [])) _ from gFd) ?_;refine ns ?_;refine n0N (p:=l0N s.d) gFd fun hdk=> ?_;refine go 4 ?_;refine a0U rfl Hb.o rfl (v0X W a s id) gSp (fun x t ho=> ?_) (fun e t ho=>by refine pn ?_;(refine b0F (fun w h=>c0C h) ?_;exact b0W (c0S (e0.trans (a0F ho))) idh gSp));refine ns ?_;have hts:t=s:=by have h:=ho;unfold find at h;split at h<;>cases h;rfl
 rw[hts]at ho ⊢;have e1:=e0.trans (a0A ho);clear ho hts;refine al fun b5=> ?_;refine go 8 ?_;refine a0U rfl Hb.o rfl (a1F W a s x at_ n (by rw[e1]at hnb;exact c0I hnb)) gSp (fun v t2 ho=> ?_) (fun e t ho=>by refine pn ?_;(refine b0F (fun w h=>c0C h) ?_;exact b0W (c0S (e1.trans (a0F ho))) idh gSp));refine ns ?_;refine go 1 ?_;obtain⟨h1,h2,h3,h4,h5⟩:=w0V ho;rw[h1]at ho ⊢;have e2:=e1.trans (a0A ho);clear ho;obtain⟨k,rfl⟩: ∃k:Nat,at_=k:=⟨at_.toNat,by omega⟩;obtain⟨m,rfl⟩: ∃k:Nat,n=k:=⟨n.toNat,by omega⟩;rw[Int.toNat_natCast,Int.toNat_natCast]at e2;have e3:o0S id (k:Int) (m:Int) s=rdR m x k m [] s:=by rw[e2];unfold rdR a0B;cases k0D m x k m s with|mk o u=>cases o<;>rfl
 refine go 2 ?_;refine a0V (X:= {y:Nat×Nat×Nat×B×Value×Value // y.2.2.1≤y.1∧y.2.1+y.2.2.1≤5000∧y.2.2.2.1.length+64*y.2.2.1≤320000∧(y.2.2.2.2.1= .pointer none∨y.2.2.2.2.1=ptr b4)∧(y.2.2.2.1= []→y.2.2.2.2.2= .slice none 0 0)∧o0S id (k:Int) (m:Int) s=rdR y.1 x y.2.1 y.2.2.1 y.2.2.2.1 s}) (fun y=> [(0,ptr b0),(2,ptr b2),(3,ptr b3),(4,ptr b4),(5,ptr b5)]) (fun y=>RS W a s++(u0R b4 y.1.2.2.2.2.1 y.1.2.2.2.2.2 y.1.2.2.2.1++ [f0G b0 a,f0W b2 y.1.2.1,f0W b3 y.1.2.2.1,s0M b5 x,R])) (fun y=>y.1.1) ⟨(m,k,m,[],.pointer none,.slice none 0 0),Nat.le_refl _,by(show k+m≤5000);omega,by(show 0+64*m≤320000);omega,.inl rfl,fun _=>rfl,e3⟩ gSu gSp ?_;rintro⟨⟨j,at',n',acc,p,v'⟩,hj,ha,hl,hp,hv,he⟩ m0 hm0
 try simp only at hm0
 try dsimp only
 simp only at hj ha hl hp hv he;refine ns ?_;refine go 7 ?_;refine a0O rfl (fun hb16=> ?_) (fun hb16=> ?_)
 ·have hn0:n'≠0:=by have h:=hb16;simp only[decide_eq_true_eq]at h;omega
  obtain⟨i,rfl⟩: ∃i,j=i+1:=⟨j-1,by omega⟩;obtain⟨f,hf⟩: ∃f,f=at'%4:=⟨_,rfl⟩;have hf4:f<4:=by omega
  obtain⟨q,hq⟩: ∃q,q=min n' (4-f):=⟨_,rfl⟩;refine go 7 ?_;rw[show((at':Nat):Int)%4=(f:Int) by omega];refine go 9 ?_;rw[show min ((n':Nat):Int) (4- (f:Int))=(q:Int) by omega];refine go 9 ?_;rw[show((at':Nat):Int)/4=((at'/4:Nat):Int) by omega];refine a0U rfl Hb.o rfl (l2V W a s x (at'/4) (by omega)) gSp (fun b t ho=> ?_) (fun e t ho=>by refine pn ?_;(have hts:=p1B x (at'/4) s;rw[ho]at hts;have hts:t=s:=hts;subst hts;refine b0F (fun w h=>c0C h) ?_;exact b0W (c0S (he.trans (w2I hn0 ho))) idh gSp));refine ns ?_;obtain⟨hts,hbl⟩:=w1T hdk ho;rw[hts]at ho;have hbs:(bs b).size=256:=by rw[b0H,hbl]
  rw[y2Q hn0 ho,←hf,←hq]at he;refine go 6 ?_;refine a0D (g1F Tst.o rfl rfl rfl (by omega)) ?_;rw[m2K b f q];refine ce 0 (c1W b4 p v' hp acc ((b.drop (f*64)).take (q*64)) (by omega) (by rw[List.length_take,List.length_drop];omega)) ?_;rintro v35 hv35;refine ns ?_;refine go 2 ?_;refine mx (.soft 1 (.soft 4 (.two 0 (.soft 2 (.two 3 (.soft 5 (.hard 6 (.hard 7 .done))) 6 (.hard 3 (.soft 5 (.hard 7 .done))))) 3 (.soft 5 (.hard 0 (.soft 2 (.hard 6 (.hard 7 .done)))))))) [] ?_;refine go 2 ?_;refine p0R rfl rfl ?_ ?_
  ·refine go 4 ?_;refine p0R rfl rfl ?_ ?_
   ·refine go 13 ?_;rw[show((at':Nat):Int)+(q:Int)=((at'+q:Nat):Int) by omega,show((n':Nat):Int)- (q:Int)=((n'-q:Nat):Int) by omega];exact rd idh (⟨(i,at'+q,n'-q,acc++(b.drop (f*64)).take (q*64),ptr b4,v35),by(show n'-q≤i);omega,by(show at'+q+(n'-q)≤5000);omega,by(show(acc++(b.drop (f*64)).take (q*64)).length+64*(n'-q)≤320000);rw[List.length_append,List.length_take,List.length_drop];omega,.inr rfl,fun h=>by have h:=congrArg List.length h;simp only[List.length_append,List.length_take,List.length_drop,List.length_nil]at h;omega,he⟩)
   ·refine go 13 ?_;rw[show((at':Nat):Int)+(q:Int)=((at'+q:Nat):Int) by omega,show((n':Nat):Int)- (q:Int)=((n'-q:Nat):Int) by omega];exact rd idh (⟨(i,at'+q,n'-q,acc++(b.drop (f*64)).take (q*64),ptr b4,v35),by(show n'-q≤i);omega,by(show at'+q+(n'-q)≤5000);omega,by(show(acc++(b.drop (f*64)).take (q*64)).length+64*(n'-q)≤320000);rw[List.length_append,List.length_take,List.length_drop];omega,.inr rfl,fun h=>by have h:=congrArg List.length h;simp only[List.length_append,List.length_take,List.length_drop,List.length_nil]at h;omega,he⟩)
  ·refine go 18 ?_;rw[show((at':Nat):Int)+(q:Int)=((at'+q:Nat):Int) by omega,show((n':Nat):Int)- (q:Int)=((n'-q:Nat):Int) by omega];exact rd idh (⟨(i,at'+q,n'-q,acc++(b.drop (f*64)).take (q*64),ptr b4,v35),by(show n'-q≤i);omega,by(show at'+q+(n'-q)≤5000);omega,by(show(acc++(b.drop (f*64)).take (q*64)).length+64*(n'-q)≤320000);rw[List.length_append,List.length_take,List.length_drop];omega,.inr rfl,fun h=>by have h:=congrArg List.length h;simp only[List.length_append,List.length_take,List.length_drop,List.length_nil]at h;omega,he⟩)
 ·obtain rfl:n'=0:=by have h:=hb16;simp only[decide_eq_false_iff_not]at h;omega
  rw[w2H]at he;have hdone: ∀w,Sat w (u0R b4 p v' acc++(RS W a s++ [R]))→Sat w (m1X b4 acc::(RS W a s++ [R])):=fun w h=>g0K.2 ⟨(p,v'),b0M.2 (n0V hv w h)⟩;refine b0U (L':=m1X b4 acc::(RS W a s++ [R])) (fun w h=>hdone w (((h.perm (show b0A _ (u0R b4 p v' acc++(RS W a s++ [R])) _ from gSp)).perm List.perm_append_comm).drop)) ?_;refine ns ?_;refine go 1 ?_;exact fR (s:=(s,.done acc)) (m0W he)
end
theorem m2M {α:Type} {m:M α} {s t:St} {y:α} {e:Int} (h:o0J (f0P m) (s,.start)=(.ok e,(t,.done y))): ∃u,m {s with depth:=s.depth+1} =(.ok y,u):=by
 unfold o0J o0I a0B f0P at h;simp only at h;split at h<;>rename_i h1
 ·simp only[Prod.mk.injEq,Out.ok.injEq]at h;obtain⟨rfl,h2,h3⟩:=h;split at h1
  ·cases h1
  ·rename_i hd;cases hm:m {s with depth:=s.depth+1} with
   |mk o u=>
    rw[hm]at h1;cases o with
    |ok a=>
     simp only at h1;split at h1
     ·cases h1
     ·cases h1;cases h3;exact⟨_,rfl⟩
    |err e'=>
     simp only at h1;split at h1
     ·cases h1
     ·cases h1;cases h3
    |big=>cases h1
 ·cases h
 ·cases h
def h2B (p:B×Int):Value:= .tuple #[b0C p.1,.int .i64 p.2]
set_option maxRecDepth 4000 in
theorem h2C (W:World) (a:Ad) (s:St) (id at_ n:Int) (hlen: ∀ {b:B} {t:St},o0S id at_ n {s with depth:=s.depth+1} =(.ok b,t)→b.length≤1000000) (hnb:(n0Y id at_ n s).1≠ .big):
 a0G prog 19 #[ptr a.core,.int .u32 id,.int .i64 at_,.int .i64 n] (RS W a s) (Ran fT (RS W a) h2B (n0Y id at_ n s)):=by
 have e0:n0Y id at_ n s=a0B (i0K (o0S id at_ n)) (fun r=>ret (if r.1=0 then(b1Z [] r.2,0)else([],r.1))) s:=rfl;have hn:=d1L (show(i0K (o0S id at_ n) s).1≠ .big by rw[e0]at hnb;exact c0I hnb);refine en func19 ntmps19 fun R w0=> ?_;refine go 2 ?_;refine bx fun b4=> ?_;refine bx fun b5=> ?_;refine bx fun b6=> ?_;refine bx fun b7=> ?_;refine go 6 ?_;refine al fun b10=> ?_;refine go 3 ?_;refine b0U (L':=u0R b10 (.pointer none) (.slice none 0 0) []++_) (fun w hs=>f0E 5 1 w hs |>.perm (List.Perm.swap _ _ _)) ?_;refine ns ?_;refine go 4 ?_;refine a0D (j0R Sc.o rfl gFd rfl) ?_;refine go 1 ?_;refine e0X (l0O (N:= [f0G b4 a,j0V b5 id,f0W b6 at_,f0W b7 n]++u0R b10 (.pointer none) (.slice none 0 0) []) gSp) ?_;refine a0U rfl Hb.o rfl (t0V (C:=Car B) W a (u0Y (m2L a b4 b5 b6 b7 b10 id at_ n) (m1X b10)) 58 [ptr b4,ptr b5,ptr b6,ptr b7,ptr b10] (f0P (o0S id at_ n)) s .start Hb.o hn (fun h=>h2A W a b4 b5 b6 b7 b10 id at_ n s.bits {s with depth:=s.depth+1} rfl (f1W.1 h))) gSp (fun e ⟨t,oc⟩ ho=> ?_) (fun e t ho=>by refine pn ?_;(exact(m0T ho).elim));refine ns ?_;refine go 2 ?_;have e1:=e0.trans (a0A (t0A ho));refine go 8 ?_;refine a0O rfl (fun hb19=> ?_) (fun hb19=> ?_)
 ·have hz:e≠0:=by have h:=hb19;simp only[bne_iff_ne,ne_eq]at h;exact h
  refine go 7 ?_;exact rR idh (by rw[e1,if_neg hz];rfl)
 ·have hz:e=0:=by have h:=hb19;simp only[bne_eq_false_iff_eq]at h;exact h
  obtain⟨y,rfl,_⟩| ⟨_,h9⟩:=h1J ho
  rotate_left
  ·exact(h9 hz).elim
  simp only[u0Y];subst hz;have hyl:y.length≤1000000:=by obtain⟨u,hu⟩:=m2M ho;exact hlen hu
  refine v0M (show Fnd _ (m1X b10 y) _ from gFd) fun x=> ?_;obtain⟨p,v⟩:=x;refine ns ?_;refine n0N (p:=y= []→v= .slice none 0 0) gFd fun hv=> ?_;refine go 3 ?_;by_cases hy0:y= []
  ·refine go 1 ?_;have hv2:=hv hy0;subst hy0;subst hv2;refine cg 0 (r1U b10 p) ?_;refine go 5 ?_;exact rR idh (by rw[e1,if_pos rfl];rfl)
  ·refine cg 1 (f1M b10 p v y hy0 hyl) ?_;refine go 5 ?_;exact rR idh (by rw[e1,if_pos rfl];rfl)
theorem m1Y:a0G prog 99 #[] [] (a0T (b0C (a0L 64)) []):=by
 refine en func99 ntmps99 fun R w0=> ?_;refine cg 7 (a1X 64 (by omega)) ?_;refine go 3 ?_;exact rG
theorem h2D (b:Nat) (v:Value) (d:Dk):a0G prog 87 #[ptr b] [pts b (.cells #[v,.bool d.armed,.int .i64 d.left,.bool d.dead] 173 (0,0)),b0I 175 2 v d.l.length (d.l.flatMap t0U)] (a0T (.int .i64 d.l.length) [pts b (.cells #[v,.bool d.armed,.int .i64 d.left,.bool d.dead] 173 (0,0)),b0I 175 2 v d.l.length (d.l.flatMap t0U)]):=by
 refine en func87 ntmps87 fun R w0=> ?_;refine go 11 ?_;refine a0D (i0N Tsl.o rfl gFd) ?_;refine go 3 ?_;exact rG
def k1H (n:Nat):List Value:=(List.replicate n (a0L 64,a0L 64)).flatMap t0U
theorem m2N (n:Nat):k1H (n+1)=k1H n++ [b0C (a0L 64),b0C (a0L 64)]:=by unfold k1H;rw[List.replicate_succ',List.flatMap_append];rfl
set_option maxRecDepth 4000 in
theorem m2O (n:Nat) (hn:n≤4096):a0G prog 41 #[.int .i64 n] [] (b0P (fun x:Nat×Value=>x.2.oneCell'=true) (fun x=>ptr x.1) (fun x=> [pts x.1 (.cells #[x.2,.bool false,.int .i64 0,.bool false] 173 (0,0)),b0I 175 2 x.2 n (k1H n)])):=by
 refine en func41 ntmps41 fun R w0=> ?_;refine go 8 ?_;refine bx fun b5=> ?_;refine go 9 ?_;rw[show min (max ((n:Nat):Int) 0) 4096=(n:Int) by omega];refine go 4 ?_;refine b0U (L':=b0I 175 2 (.slice none 0 0) 0 (k1H 0)::_) (fun w hs=>f0E 175 2 w hs) ?_;refine a0V (X:= {y:Nat×Value // y.1≤n∧y.2.oneCell'=true}) (fun y=> [(3,ptr b5),(8,.int .i64 n),(9,.int .i64 y.1.1)]) (fun y=> [pts b5 (.cells #[y.1.2,.bool false,.int .i64 0,.bool false] 173 (0,0)),b0I 175 2 y.1.2 y.1.1 (k1H y.1.1),R]) (fun y=>n-y.1.1) ⟨(0,.slice none 0 0),by omega,rfl⟩ gSu gSp ?_;rintro⟨⟨i,v⟩,hi,hv⟩ m0 hm0
 try simp only at hm0
 try dsimp only
 simp only at hi hv;refine go 6 ?_;refine a0O rfl (fun hb10=> ?_) (fun hb10=> ?_)
 ·have hin:i<n:=by have:=of_decide_eq_true hb10;omega
  refine go 4 ?_;refine v0O 12 (by rfl) (.soft 0 (.soft 1 (.soft 2 (.soft 3 (.soft 4 (.hard 5 (.hard 6 (.soft 7 (.hard 8 (.hard 9 (.soft 10 (.soft 11 .done)))))))))))) [pts b5 (.cells #[v,.bool false,.int .i64 0,.bool false] 173 (0,0))] Fol.o (by kernel_rfl) (by repeat (first|with_reducible exact b0T.bp|with_reducible apply b0T.then|with_reducible apply b0T.inBlock)) gSp ?_;simp only[List.take_succ_cons,List.take_zero];refine go 5 ?_;refine b0Y rfl (fun hok EE FF=> ?_);refine ns ?_;refine cg 0 (m1Y) ?_;refine go 1 ?_;refine fn (E:=EE) (F:=FF) (hok.put rfl) ?_;refine b0Y rfl (fun hok EE FF=> ?_);refine ns ?_;refine cg 0 (m1Y) ?_;refine go 1 ?_;refine fn (E:=EE) (F:=FF) (hok.put rfl) ?_;refine go 1 ?_;refine b0Y rfl (fun hok EE FF=> ?_);refine ns ?_;refine bl fun b19=> ?_;refine go 1 ?_;refine fn (E:=EE) (F:=FF) (hok.put rfl) ?_;refine b0Y rfl (fun hok EE FF=> ?_);refine ns ?_;refine(d0E Tsl.o Ttb.o Zr.o rfl rfl rfl gFd (f0I Tsl.o (by simp;rfl) (by simp) (by simp[Value.oneCell'])) (by simp only[maxLen];omega) (by omega) (fun v20 hv20=> ?_));refine go 1 ?_;refine fn (E:=EE) (F:=FF) (hok.put rfl) ?_;refine go 3 ?_;refine a1K ?_;refine go 2 ?_;rw[←m2N];refine go 5 ?_;exact rd idh (⟨(i+1,v20),hin,hv20⟩)
 ·obtain rfl:i=n:=by have:=of_decide_eq_false hb10;omega
  refine go 8 ?_;exact rE idh (b5,v) hv
abbrev dkN (b:Nat) (v:Value) (n:Nat):List a0E:= [pts b (.cells #[v,.bool false,.int .i64 0,.bool false] 173 (0,0)),b0I 175 2 v n (k1H n)]
abbrev dkP (b:Nat) (v:Value) (d:Dk):List a0E:= [pts b (.cells #[v,.bool d.armed,.int .i64 d.left,.bool d.dead] 173 (0,0)),b0I 175 2 v d.l.length (d.l.flatMap t0U)]
structure HN where
 log:Nat
 gr:Nat
 grl:Nat
 refs:Nat
 by_:Nat
 heap:Nat
abbrev s1J (x:HN) (bd n:Nat):List a0E:= [pts x.heap (.cells #[ptr bd,ptr x.log,ptr x.gr,.map (some x.refs),.map (some x.by_),.slice none 0 0,.int .i64 0] 92 (0,0)),pts x.log (.cells #[.slice none 0 0,.int .i64 0] 154 (0,0)),
 b0K x.refs a0H a0H ([]:List (Int×Int)),b0K x.by_ a0H a0H ([]:List (Int×Int)),pts x.gr (.cells (l0V 2 x.grl (List.replicate n 0)).toArray 192 (0,0)),pts x.grl (.cells ((List.replicate n 0).map gst).toArray 3 (0,0))]
theorem x1G (bd:Nat) (v:Value) (d:Dk) (n:Nat) (hd:d.l.length=n+2) (hn:n≤4094):a0G prog 32 #[ptr bd,.int .i64 2] (dkP bd v d) (b0P (fun _:HN=>True) (fun x=>ptr x.heap) (fun x=>s1J x bd n++dkP bd v d)):=by
 have hl:=h2D bd v d;simp only[dkP];rw[hd]at hl ⊢;refine en func32 ntmps32 fun R w0=> ?_;refine go 9 ?_;refine bx fun b7=> ?_;refine cg 2 (hl) ?_;refine ce 0 (k2E 2 n ((n+2:Nat):Int) (by omega) (by omega) (by omega)) ?_;rintro⟨bg,bgl⟩ _;refine ns ?_;refine(r0G (fun b12=> ?_));refine(r0G (fun b13=> ?_));refine e0X (fun w h=>x0R a0H a0H ((show Fnd _ (pts b12 _) _ from gFd).sat h)) ?_;refine e0X (fun w h=>x0R a0H a0H ((show Fnd _ (pts b13 _) _ from gFd).sat h)) ?_;refine go 1 ?_;refine bx fun b15=> ?_;refine go 3 ?_;exact rE idh ({log:=b7,gr:=bg,grl:=bgl,refs:=b12,by_:=b13,heap:=b15} :HN) trivial
theorem m2P (bd:Nat) (v:Value) (n:Nat) (hn:n≤4000):a0G prog 32 #[ptr bd,.int .i64 2] (dkN bd v (n+2)) (b0P (fun _:HN=>True) (fun x=>ptr x.heap) (fun x=>s1J x bd n++dkN bd v (n+2))):=by
 have h:=x1G bd v (k0Q (n+2)) n (by simp[k0Q]) (by omega);simp only[dkP,k0Q,List.length_replicate]at h;exact h
theorem m2Q (bh:Nat) (bits:Nat) (hb:1≤bits∧bits≤256):a0G prog 85 #[ptr bh,.int .i64 bits] [] (b0P (fun _:Nat×Nat=>True) (fun x=>ptr x.1) (fun x=> [pts x.1 (.cells #[ptr bh,.int .i64 bits,.map (some x.2)] 210 (0,0)),b0K x.2 d0X a0H ([]:List (B×Int))])):=by
 refine en func85 ntmps85 fun R w0=> ?_;refine go 11 ?_;refine(r0G (fun b9=> ?_));rw[show min (max ((bits:Nat):Int) 1) 256=(bits:Int) by omega];refine go 1 ?_;refine e0X (fun w h=>x0R d0X a0H ((show Fnd _ (pts b9 _) _ from gFd).sat h)) ?_;refine bx fun b11=> ?_;refine go 3 ?_;exact rE idh (b11,b9) trivial
theorem m2R (bh bxx:Nat):a0G prog 84 #[ptr bh,ptr bxx] [] (b0P (fun _:Nat=>True) (fun x=>ptr x) (fun x=> [pts x (.cells #[ptr bh,ptr bxx] 194 (0,0))])):=by
 refine en func84 ntmps84 fun R w0=> ?_;refine go 10 ?_;refine bx fun b8=> ?_;refine go 3 ?_;exact rE idh b8 trivial
structure CN where
 st:Nat
 ix:Nat
 maps:Nat
 core:Nat
 vols:Nat
abbrev h2E (x:CN) (bh bits:Nat) (nx:Int):List a0E:= [pts x.st (.cells #[ptr bh,.int .i64 bits,.map (some x.ix)] 210 (0,0)),b0K x.ix d0X a0H ([]:List (B×Int)),pts x.maps (.cells #[ptr bh,ptr x.st] 194 (0,0)),
 b0K x.vols e0J e0E ([]:List (Int×Ent)),pts x.core (.cells #[ptr bh,ptr x.maps,.map (some x.vols),.int .u32 nx,.int .u32 1] 59 (0,0))]
theorem r1I (bh bits:Nat) (nx:Int) (hb:1≤bits∧bits≤256) (hx:1≤nx):a0G prog 31 #[ptr bh,.int .i64 bits,.int .u32 nx] [] (b0P (fun _:CN=>True) (fun x=>ptr x.core) (fun x=>h2E x bh bits nx)):=by
 refine en func31 ntmps31 fun R w0=> ?_;refine ce 11 (m2Q bh bits hb) ?_;rintro⟨bs,bi⟩ _;refine ns ?_;refine ce 0 (m2R bh bs) ?_;rintro bm _;refine ns ?_;refine(r0G (fun b13=> ?_));refine go 2 ?_;refine e0X (fun w h=>x0R e0J e0E ((show Fnd _ (pts b13 _) _ from gFd).sat h)) ?_;rw[show max nx 1=nx by omega];refine go 1 ?_;refine bx fun b17=> ?_;refine go 3 ?_;exact rE idh ({st:=bs,ix:=bi,maps:=bm,core:=b17,vols:=b13} :CN) trivial
abbrev adN (bd:Nat) (v:Value) (h:HN) (c:CN):Ad:= {disk:=bd,vd:=v,log:=h.log,gr:=h.gr,grl:=h.grl,refs:=h.refs,heap:=h.heap,st:=c.st,ix:=c.ix,maps:=c.maps,core:=c.core,vols:=c.vols}
theorem x1H {W w:World} {L:List a0E} {bd n bits:Nat} {v:Value} {h:HN} {c:CN} {d:Dk} {nx:Int} (hd:d.l.length=n+2) (hdk:l0N d) (hn:n≤4094) (hb:1≤bits∧bits≤256) (hx:1≤nx)
 (hs:Sat w (whole W::(dkP bd v d++(s1J h bd n++(h2E c h.heap bits nx++L))))):Sat w (RS W (adN bd v h c) (f0X d 2 bits nx)++L):=by
 have hbits:(f0X d 2 bits nx).bits=bits:=by show min (max bits 1) 256=bits;omega
 have hg:(f0X d 2 bits nx).g=List.replicate n 0:=by simp[f0X,hd]
 have hnx:(f0X d 2 bits nx).next=nx:=by show max nx 1=nx;omega
 have hst:o0M (f0X d 2 bits nx):=⟨by show 2≤5000;omega,by rw[hg];simp;omega,fun x hx=>by rw[hg]at hx;rw[List.eq_of_mem_replicate hx];omega,by intro p hp;cases hp⟩;have h1:=c0C (f0E 1 1 w hs);have h2:=q0D (a:=adN bd v h c) (by_:=h.by_) (o:= []) (log:= []) (depth:=0) (v:= .slice none 0 0) (vals:= []) ⟨by simp,[],[],List.Perm.refl _,rfl,rfl,by simp⟩ (by omega)
  (by simp only[List.cons_append,List.nil_append];exact gSp) w h1
 have h3:=c0C h2;have h4:=c0W (a:=adN bd v h c) (s:=f0X d 2 bits nx) (by_:=h.by_) (gv:= .slice none 0 0) (gc:= []) (o:= []) ⟨by simp[f0X],.inl ⟨rfl,rfl,rfl⟩⟩ hst
  (by rw[d0B,hg,hnx];exact gSp) w h3
 have h5:=n0V (p:=l0N d) hdk w h4;exact h5.perm (show b0A _ [whole W,dkC (adN bd v h c) d,dkR (adN bd v h c) d,m0X (l0N d),stC (adN bd v h c) (f0X d 2 bits nx).bits,mpC (adN bd v h c),HL (adN bd v h c) (f0X d 2 bits nx)] L by rw[hbits];exact gSp)
theorem w2J {W w:World} {L:List a0E} {bd n bits:Nat} {v:Value} {h:HN} {c:CN} (hn:n≤4000) (hb:1≤bits∧bits≤256)
 (hs:Sat w (whole W::(dkN bd v (n+2)++(s1J h bd n++(h2E c h.heap bits 1++L))))):Sat w (RS W (adN bd v h c) (f0X (k0Q (n+2)) 2 bits 1)++L):=
 x1H (d:=k0Q (n+2)) (n:=n) (by simp[k0Q]) ⟨fun x hx=>by rw[List.eq_of_mem_replicate hx];simp[a0L],by simp[k0Q];omega,by show 0<4611686018427387904;decide⟩ (by omega) hb (by decide) (by simp only[dkP,k0Q,List.length_replicate];exact hs)
abbrev p1F (b core bits:Nat):a0E:=pts b (.cells #[ptr core,.slice none 0 0,.int .i64 1,.int .i64 bits,.int .i64 1] 37 (0,0))
theorem r2H (W:World) (n bits:Nat) (ib:Int) (hib:min (max ib 1) 256=(bits:Int)) (hn:n≤4000) (hb:1≤bits∧bits≤256):a0G prog 11 #[.int .i64 ((n+2:Nat):Int),.int .i64 ib] [whole W] (b0P (fun _:Ad×Nat=>True) (fun x=> .tuple #[ptr x.2,.bool true]) (fun x=>RS W x.1 (f0X (k0Q (n+2)) 2 bits 1)++ [p1F x.2 x.1.core bits])):=by
 refine en func11 ntmps11 fun R w0=> ?_;refine go 11 ?_;rw[hib];refine ce 6 (m2O (n+2) (by omega)) ?_;rintro⟨bd,v⟩ hv;refine ns ?_;refine ce 0 (m2P bd v n hn) ?_;rintro h _;refine ns ?_;refine ce 1 (r1I h.heap bits 1 hb (by decide)) ?_;rintro c _;refine ns ?_;refine go 4 ?_;refine mx (.r 0 4 (.r 5 16 (.hard 4 (.r 21 2 .done)))) [pts c.core (.cells #[ptr h.heap,ptr c.maps,.map (some c.vols),.int .u32 1,.int .u32 1] 59 (0,0))] ?_;refine go 5 ?_;refine d0A rfl (d1X F.pt35 rfl rfl) ?_;refine go 5 ?_;refine t0D rfl (d1X F.pt55 rfl rfl) (wg rfl rfl rfl (wTT rfl)) ?_;refine go 6 ?_;refine t0D rfl (d1X F.pt56 rfl rfl) (wg rfl rfl rfl (wTT rfl)) ?_;refine go 2 ?_;refine bx fun b19=> ?_;refine go 6 ?_;refine b0U (L':=RS W (adN bd v h c) (f0X (k0Q (n+2)) 2 bits 1)++ [p1F b19 c.core bits,R]) (fun w hs=>w2J (L:= [p1F b19 c.core bits,R]) hn hb (by simp only[List.cons_append,List.nil_append];exact hs.re gSp)) ?_;refine ns ?_;exact rE idh (x:=((adN bd v h c,b19):Ad×Nat)) trivial
theorem r1J (W:World) (n bits:Nat) (hn:n≤4000) (hb:1≤bits∧bits≤256):a0G prog 11 #[.int .i64 ((n+2:Nat):Int),.int .i64 bits] [whole W] (b0P (fun _:Ad×Nat=>True) (fun x=> .tuple #[ptr x.2,.bool true]) (fun x=>RS W x.1 (f0X (k0Q (n+2)) 2 bits 1)++ [p1F x.2 x.1.core bits])):=r2H W n bits bits (by omega) hn hb
theorem m1Z: ∀ {k:Nat} {x:Ent} {a n:Nat} {s t:St} {b:B},k0D k x a n s=(.ok b,t)→b.length≤64*n
 |0,x,a,n,s,t,b,h=>by cases h;simp
 |k+1,x,a,n,s,t,b,h=>by
  unfold k0D at h;split at h
  ·cases h;simp
  ·rename_i hn;simp only at h;cases hg:p0K x (a/4) s with
   |mk o u=>
    cases o with
    |ok v=>
     rw[a0A hg]at h;cases hg2:k0D k x (a+min n (4-a%4)) (n-min n (4-a%4)) u with
     |mk o2 u2=>
      cases o2 with
      |ok r=>
       rw[a0A hg2]at h;cases h
       have:=m1Z hg2;rw[List.length_append,List.length_take];omega
      |err e=>rw[a0F hg2]at h;cases h
      |big=>unfold a0B at h;rw[hg2]at h;cases h
    |err e=>rw[a0F hg]at h;cases h
    |big=>unfold a0B at h;rw[hg]at h;cases h
theorem m2S {id at_ n:Int} {s t:St} {b:B} (h:o0S id at_ n s=(.ok b,t)):b.length≤1000000:=by
 unfold o0S at h;cases hg:find id s with
 |mk o u=>
  cases o with
  |ok x=>
   rw[a0A hg]at h;cases hg2:h0J x at_ n u with
   |mk o2 u2=>
    cases o2 with
    |ok v=>
     rw[a0A hg2]at h;obtain⟨_,h2,h3,h4,h5⟩:=w0V hg2;have:=m1Z h;omega
    |err e=>rw[a0F hg2]at h;cases h
    |big=>unfold a0B at h;rw[hg2]at h;cases h
  |err e=>rw[a0F hg]at h;cases h
  |big=>unfold a0B at h;rw[hg]at h;cases h
theorem r2I (W:World) (a:Ad) (s:St) (id at_ n:Int) (hnb:(n0Y id at_ n s).1≠ .big):
 a0G prog 19 #[ptr a.core,.int .u32 id,.int .i64 at_,.int .i64 n] (RS W a s) (Ran fT (RS W a) h2B (n0Y id at_ n s)):=h2C W a s id at_ n m2S hnb
def low (c:UInt8):UInt8:=UInt8.ofNat (c.toNat%4)
def h1K (c:UInt8):B:=List.replicate 64 (low c)
theorem y2R (c:UInt8):(c.toNat:Int)%4=((low c).toNat:Int):=by unfold low;rw[UInt8.toNat_ofNat'];omega
theorem h2F (c:UInt8):(List.replicate 64 [low c]).flatten=h1K c:=rfl
def o0U (l:B):B:=(l.take 12).flatMap h1K
theorem h2G {l:B} {i:Nat} (h:i<l.length) (h12:i<12):o0U (l.take i)++h1K l[i]=o0U (l.take (i+1)):=by
 unfold o0U;rw[List.take_of_length_le (l:=l.take i) (by simp;omega),List.take_of_length_le (l:=l.take (i+1)) (by simp;omega),List.take_succ,List.getElem?_eq_getElem h,List.flatMap_append];simp
theorem r1K {l:B} {i:Nat} (h:l.length≤i∨12≤i) (h12:i≤12):o0U (l.take i)=o0U l:=by
 unfold o0U;rw[List.take_take];rcases h with h|h
 ·rw[List.take_of_length_le (by omega),List.take_of_length_le (by omega)]
 ·rw[show min 12 i=12 by omega]
theorem r2J (l:B):(l.flatMap h1K).length=64*l.length:=by
 induction l with
 |nil=>rfl
 |cons c l ih=>rw[List.flatMap_cons,List.length_append,ih];simp[h1K];omega
theorem f1X (l:B):(o0U l).length=64*min 12 l.length:=by unfold o0U;rw[r2J,List.length_take]
set_option maxRecDepth 4000 in
theorem m2T (l:B):a0G prog 18 #[b0C l] [] (a0T (b0C (o0U l)) []):=by
 have hsz:(bs l).size=l.length:=b0H l;refine en func18 ntmps18 fun R w0=> ?_;refine go 17 ?_;refine a0V (X:= {i:Nat // i≤12∧i≤l.length}) (fun y=> [(0,b0C l),(3,b0C (o0U (l.take y.1))),(4,.int .i64 y.1)]) (fun y=> [R]) (fun y=>12-y.1) ⟨0,by omega,by omega⟩ gSu gSp ?_;rintro⟨i,hi,hil⟩ m0 hm0
 try simp only at hm0
 try dsimp only
 skip;refine go 2 ?_;by_cases hlt:i<l.length
 ·refine go 4 ?_;rw[b0H];refine go 7 ?_;refine a0O rfl (fun hb12=> ?_) (fun hb12=> ?_)
  ·have hi12:i<12:=by have:=of_decide_eq_true hb12;omega
   have hbyte:(bs l).data.toList[((i:Nat):Int).toNat]? =some l[i]:=by rw[m0D,Int.toNat_natCast,List.getElem?_eq_getElem hlt]
   refine go 8 ?_;refine a0D (d1U Tst.o rfl rfl (by omega) (by assumption)) ?_;refine a0D (o0O rfl rfl) ?_;rw[z2N,y2R];refine bl fun b20=> ?_;refine a0D (e1C Tsl.o Tst.o Tby.o rfl (l:= [low l[i]]) rfl rfl) ?_;refine cg 0 (c2B [low l[i]] 64 (by simp) (by omega)) ?_;rw[h2F];refine a0D (h0N rfl rfl (by rw[b0H,b0H,f1X];simp[h1K];omega)) ?_;rw[←h0U,h2G hlt hi12];refine go 8 ?_;exact rd idh (⟨i+1,hi12,hlt⟩)
  ·skip;refine go 8 ?_;exact rG (hu:=(by rw[r1K (.inr (by have:=of_decide_eq_false hb12;omega)) hi]))
 ·refine go 4 ?_;rw[b0H];refine go 16 ?_;exact rG (hu:=(by rw[r1K (.inl (by omega)) hi]))
abbrev a3A (x:Nat×Int):Value:= .agg #[.int .i64 x.1,.int .i64 x.2]
def JB {C:Type} (J Jx:C→a0E) (p:Bool×C):a0E:=if p.1 then J p.2 else Jx p.2
theorem r2K {C:Type} {J Jx:C→a0E} {p:Bool×C} (h:p.1=true):JB J Jx p=J p.2:=by unfold JB;rw[if_pos h]
theorem r2L {C:Type} {J Jx:C→a0E} {p:Bool×C} (h:p.1=false):JB J Jx p=Jx p.2:=by unfold JB;rw[if_neg (by rw[h];simp)]
abbrev h2H {C:Type} (r:Nat) (J Jx:C→a0E) (see:Nat×Int→C→Bool×C) (m:C→Nat) (bd:Nat):Prop:= ∀x c,m c<bd→b1M prog r #[a3A x] [J c] (fun e L'=>e= .returned (.bool (see x c).1)∧L'= [JB J Jx (see x c)])
abbrev f1Y (W:World) (a:Ad) (s:St) {C:Type} (r:Nat) (J Jx:C→a0E) (see:Nat×Int→C→Bool×C) (m:C→Nat) (bd:Nat) (level:Nat):Prop:= ∀(at_:Int) (from_:Nat) (c:C) (ys:List (Nat×Int)),lvs level from_ at_ s=some ys→m c+ys.length≤bd→from_+1000*level≤100000→
 a0G prog 256 #[ptr a.maps,.int .i64 at_,.int .i64 level,.int .i64 from_,.func (.yield r) #[] #[]] (RS W a s++ [J c]) (a0T (.bool (g0I see ys c).1) (RS W a s++ [JB J Jx (g0I see ys c)]))
theorem r2M {g:Nat→Int→Option (List (Nat×Int))} {i:Nat} {kids:List Int} {ys:List (Nat×Int)} (hi:i<kids.length) (h:lvK g i (kids.drop i)=some ys): ∃a b,g i (kids.getD i 0)=some a∧lvK g (i+1) (kids.drop (i+1))=some b∧ys=a++b:=by
 rw[List.drop_eq_getElem_cons hi]at h;unfold lvK at h;obtain⟨a,h1,h2⟩:=Option.bind_eq_some_iff.1 h;obtain⟨b,h3,h4⟩:=Option.map_eq_some_iff.1 h2;exact⟨a,b,by rw[List.getD_eq_getElem?_getD,List.getElem?_eq_getElem hi];exact h1,h3,h4.symm⟩
theorem f1Z {C:Type} (see:Nat×Int→C→Bool×C) (x:Nat×Int) (l:List (Nat×Int)) (c:C):g0I see (x::l) c=if(see x c).1 then g0I see l (see x c).2 else(false,(see x c).2):=rfl
theorem p1G {C:Type} {see:Nat×Int→C→Bool×C} {mu:C→Nat} (hmu: ∀x c,mu (see x c).2≤mu c+1): ∀(l:List (Nat×Int)) (c:C),mu (g0I see l c).2≤mu c+l.length
 | [],c=>by show mu c≤_;omega
 |x::l,c=>by
  rw[f1Z];have h1:=hmu x c;split
  ·have h2:=p1G hmu l (see x c).2;simp only[List.length_cons];omega
  ·simp only[List.length_cons];omega
theorem r2N {C:Type} (see:Nat×Int→C→Bool×C) (c:C):g0I see [] c=(true,c):=rfl
theorem w2K {s:St} {from_ level i:Nat} {k:Int} {xs:List (Nat×Int)} (hk:k=0) (h:g1S s from_ level i k=some xs):xs= []:=by
 subst hk;cases level<;>exact(Option.some.inj h).symm
theorem w2L {s:St} {from_ level i:Nat} {k:Int} {xs:List (Nat×Int)} (hl:level=0) (hk: ¬k=0) (h:g1S s from_ level i k=some xs):xs= [(from_+i,k)]:=by
 subst hl;have h1:some (if k=0 then []else [(from_+i,k)])=some xs:=h;rw[if_neg hk]at h1;exact(Option.some.inj h1).symm
theorem w2M {s:St} {from_ m i:Nat} {k:Int} {xs:List (Nat×Int)} (hk: ¬k=0) (h:g1S s from_ (m+1) i k=some xs):lvs m (from_+i*8^(m+1)) k s=some xs:=by
 have h1:(if k=0 then some []else lvs m (from_+i*8^(m+1)) k s)=some xs:=h
 rwa [if_neg hk]at h1
theorem pow8 {l:Nat} (h:l<3):1≤8^l∧8^l≤64∧8^(l+1)/8=8^l:=by
 rcases l with _|_|_|l
 ·decide
 ·decide
 ·decide
 ·omega
theorem i1F (W:World) (a:Ad) (s:St) {C:Type} (r:Nat) (J Jx:C→a0E) (see:Nat×Int→C→Bool×C) (mu:C→Nat) (bd:Nat) (hmu: ∀x c,mu (see x c).2≤mu c+1) (hy:h2H r J Jx see mu bd) (level:Nat) (hl:level<3) (ih: ∀m,level=m+1→f1Y W a s r J Jx see mu bd m):f1Y W a s r J Jx see mu bd level:=by
 intro at_ from_ c ys hv hbd hf;rw[x2V]at hv;obtain⟨n,hn⟩: ∃n,(Go.Sb.load at_ level s).1= .ok n:=by
  cases ho:(Go.Sb.load at_ level s).1 with
  |ok n=>exact⟨n,rfl⟩
  |err e=>rw[ho]at hv;cases hv
  |big=>rw[ho]at hv;cases hv
 rw[hn]at hv;have hv:lvK (g1S s from_ level) 0 n.kids=some ys:=hv;have hload:Go.Sb.load at_ level s=(.ok n,s):=by
  have h1:Go.Sb.load at_ level s=(.ok n,(Go.Sb.load at_ level s).2):=by rw[←hn]
  have h2:=(h0Q h1).1;rw[h1,h2]
 have hln:=(h0Q hload).2;have k:=p0F W a s at_ level;rw[hload]at k;have kload:=k.ran_ok;have h8:n.kids.length=8:=hln.n;obtain⟨p1,p2,p3⟩:=pow8 hl;obtain⟨sp,hsp⟩: ∃sp,sp=8^level:=⟨_,rfl⟩;rw[←hsp]at p1 p2 p3;refine ns ?_;refine en func256 ntmps256 fun R w0=> ?_;refine cg 8 (q1Q level hl) ?_;refine go 1 ?_;rw[show(((8^(level+1):Nat):Int))/8=(sp:Int) by omega];refine cg 9 (kload) ?_;refine a0D (n0S (v:=(n.kids.map a0H).toArray) F.fa182_1 rfl (d1J hln)) ?_;refine go 4 ?_;refine a0V (X:= {y:Nat×C×List (Nat×Int) // y.1≤8∧lvK (g1S s from_ level) y.1 (n.kids.drop y.1)=some y.2.2∧mu y.2.1+y.2.2.length≤bd∧g0I see ys c=g0I see y.2.2 y.2.1}) (fun y=> [(0,ptr a.maps),(2,.int .i64 level),(3,.int .i64 from_),(4,.func (.yield r) #[] #[]),(11,.int .i64 sp),(21,.agg (n.kids.map a0H).toArray),(22,.int .i64 y.1.1)]) (fun y=>RS W a s++ [J y.1.2.1,R]) (fun y=>8-y.1.1) ⟨(0,c,ys),Nat.zero_le 8,hv,hbd,rfl⟩ gSu gSp ?_;rintro⟨⟨i,c',zs⟩,hi,hz,hb,he⟩ m0 hm0
 try simp only at hm0
 try dsimp only
 simp only at hi hz hb he;refine ns ?_;refine go 6 ?_;refine a0O rfl (fun hb23=> ?_) (fun hb23=> ?_)
 ·have hi8:i<8:=by have:=of_decide_eq_true hb23;omega
  obtain⟨xs,ws,h1,h2,rfl⟩:=r2M (by omega) hz;rw[List.length_append]at hb;refine go 7 ?_;refine a0D (o0P Tar.o Sc.o rfl rfl (by omega) (i0E a0H n.kids i _ (by omega) (by omega))) ?_;rw[←c1X (l:=n.kids) (by omega)];refine go 6 ?_;by_cases hk:n.kids.getD i 0=0
  ·refine go 6 ?_;refine d0P rfl (by rw[hk];rfl) ?_;refine go 6 ?_;have hx0:xs= []:=w2K hk h1;rw[hx0,List.nil_append]at he;exact rd idh (⟨(i+1,c',ws),by(show i+1≤8);omega,h2,by(show mu c'+ws.length≤bd);omega,he⟩)
  ·refine go 6 ?_;refine b0S rfl (by simpa using hk) ?_;refine go 1 ?_;by_cases hlv:level=0
   ·refine go 6 ?_;refine d0P rfl (by rw[hlv];rfl) ?_;refine go 1 ?_;have hx1:xs= [(from_+i,n.kids.getD i 0)]:=w2L hlv hk h1;have hm1:=hmu (from_+i,n.kids.getD i 0) c';rw[hx1,List.length_singleton]at hb;rw[hx1,List.singleton_append,f1Z]at he;refine b1N ?_;refine u0G (d0H rfl) ?_;refine u0G (d0H rfl) ?_;refine u0G (d0H rfl) ?_;refine u0G (s1L rfl rfl (by omega)) ?_;rw[show((from_:Nat):Int)+((i:Nat):Int)=((from_+i:Nat):Int) by omega];refine u0G (d0H rfl) ?_;refine u0G (s0P Pl.o rfl (by simp[m0O,nth,Value.cells]<;>rfl)) ?_;refine i1S rfl rfl (hy (from_+i,n.kids.getD i 0) c' (by omega)) gSp ?_;refine ns ?_;refine u0G (v0A rfl) ?_;refine s1V ?_;refine go 1 ?_;refine a0O rfl (fun hb39=> ?_) (fun hb39=> ?_)
    ·have hs1:(see (from_+i,n.kids.getD i 0) c').1=false:=by have h:=hb39;simpa using h
     rw[if_neg (by rw[hs1];simp)]at he;rw[r2L hs1,he];refine go 5 ?_;exact rG
    ·have hs1:(see (from_+i,n.kids.getD i 0) c').1=true:=by have h:=hb39;simpa using h
     rw[if_pos hs1]at he;rw[r2K hs1];refine go 6 ?_;exact rd idh (⟨(i+1,(see (from_+i,n.kids.getD i 0) c').2,ws),by(show i+1≤8);omega,h2,by(show mu (see (from_+i,n.kids.getD i 0) c').2+ws.length≤bd);omega,he⟩)
   ·refine go 8 ?_;obtain⟨m,rfl⟩: ∃m,level=m+1:=⟨level-1,by omega⟩;have hx2:lvs m (from_+i*sp) (n.kids.getD i 0) s=some xs:=by rw[hsp];exact w2M hk h1
    have hmul:i*sp≤7*64:=Nat.mul_le_mul (by omega) p2;refine go 5 ?_;rw[show(((m+1:Nat):Int))-1=(m:Int) by omega];refine go 5 ?_;rw[show((from_:Nat):Int)+((i:Nat):Int)*((sp:Nat):Int)=((from_+i*sp:Nat):Int) by rw[Int.natCast_add,Int.natCast_mul]];refine cg 1 (ih m rfl (n.kids.getD i 0) (from_+i*sp) c' xs hx2 (by omega) (by omega)) ?_;refine go 1 ?_;rw[u1G]at he;have hm1:=p1G hmu xs c';refine go 3 ?_;refine a0O rfl (fun hb40=> ?_) (fun hb40=> ?_)
    ·have hs1:(g0I see xs c').1=false:=by have h:=hb40;simpa using h
     rw[if_neg (by rw[hs1];simp)]at he;rw[r2L hs1,he];refine go 5 ?_;exact rG
    ·have hs1:(g0I see xs c').1=true:=by have h:=hb40;simpa using h
     rw[if_pos hs1]at he;rw[r2K hs1];refine go 6 ?_;exact rd idh (⟨(i+1,(g0I see xs c').2,ws),by(show i+1≤8);omega,h2,by(show mu (g0I see xs c').2+ws.length≤bd);omega,he⟩)
 ·obtain rfl:i=8:=by have:=of_decide_eq_false hb23;omega
  have hz0:zs= []:=by rw[List.drop_of_length_le (by omega)]at hz;unfold lvK at hz;exact(Option.some.inj hz).symm
  rw[hz0,r2N]at he;rw[he];refine go 7 ?_;exact rG
end Go.Proofs.Q

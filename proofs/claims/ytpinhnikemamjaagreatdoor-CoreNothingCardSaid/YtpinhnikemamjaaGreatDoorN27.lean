/- Part of the proof; no statement of its own. -/
import Derived.Test.YtpinhnikemamjaaGreatDoorN18
import Derived.Test.YtpinhnikemamjaaGreatDoorN23
import Derived.Test.YtpinhnikemamjaaGreatDoorN26
import Derived.Test.YtpinhnikemamjaaGreatDoorN24
import Derived.Test.YtpinhnikemamjaaGreatDoorN10
set_option linter.all false
set_option maxRecDepth 4000
set_option maxHeartbeats 4000000
attribute [local irreducible] Go.Sl.a0O Go.Sl.OW Go.Sl.CW Go.Sl.OS Go.Sl.OM Go.Sl.OMf Go.Sl.KM
namespace Go.Proofs.Q
open Go.Sl Go.Sb Tryz
theorem w2G (W:World) (a:Ad) (s:St) (root:Int) (at_:Nat) (hat:at_<1000000):a0F prog 115 #[ptr a.maps,.int .i64 root,.int .i64 at_] (RS W a s) (Ran fT (fun _:St=>RS W a s) a0J (k0S 2 root at_ s)):=
 a0F.mono_ran (p1V W a s root at_ hat) (fun e L h=>(v1A (a1B 2 root at_ s)).2 h)
theorem w2H (W:World) (a:Ad) (s:St) (at_:Int):a0F prog 114 #[ptr a.st,.int .i64 at_] (RS W a s) (Ran fT (fun _:St=>RS W a s) b0B (k0R at_ s)):=
 a0F.mono_ran (p1P W a s at_) (fun e L h=>(v1A (a2U at_ s)).2 h)
theorem j2M (W:World) (a:Ad) (s:St) (x:Ent) (i:Nat) (hi:i<1000000):a0F prog 61 #[ptr a.core,d0Z x,.int .i64 i] (RS W a s) (Ran fT (fun _:St=>RS W a s) b0B (o0U x i s)):=by
 have e0:o0U x i s=a0B (k0S 2 x.root i) k0R s:=rfl;refine en func61 ntmps61 fun R w0=> ?_
 try simp only[d0Z]
 refine go 2 ?_;refine bx fun b4=> ?_;refine go 4 ?_;refine mx (.r 0 14 (.hard 14 (.hard 15 (.soft 16 .done)))) [HL a s,mpC a,r0Y b4 x] ?_;refine go 3 ?_;refine c0V rfl (j0K Sc.o rfl gFd rfl) ?_;refine go 6 ?_;refine c0V rfl (j0K Sc.o rfl gFd rfl) ?_;refine go 4 ?_;refine a0X rfl Hb.o rfl (w2G W a s x.root i hi) gSp (fun r t ho=> ?_) (fun e t ho=>by refine pn ?_;exact kx ((by rw[e0];exact a0I ho)));refine ns ?_;refine go 3 ?_;have hq:=ho;rw[show t=s by have:=a1B 2 x.root i s;rw[ho]at this;exact this]at hq;refine a0X rfl Hb.o rfl (w2H W a s r) gSp (fun b t' ho=> ?_) (fun e t ho=>by refine pn ?_;exact kx ((by rw[e0,a0A hq];exact ho)));refine ns ?_;refine go 5 ?_;exact rR idh (by rw[e0,a0A hq];exact ho)
theorem j2N (W:World) (a:Ad) (s:St) (x:Ent) (i:Nat) (hi:i<1000000):a0F prog 61 #[ptr a.core,d0Z x,.int .i64 i] (RS W a s) (Ran fT (RS W a) b0B (o0U x i s)):=
 a0F.mono_ran (j2M W a s x i hi) (fun e L h=>(v1A (n1P x i s)).1 h)
def t0H {α:Type} (o:Out α×St):Out Unit×(St×Option α):=match o with
 | (.ok a,s)=>(.ok (),(s,some a))
 | (.err e,s)=>(.err e,(s,none))
 | (.big,s)=>(.big,(s,none))
theorem s0L {α:Type} {o:Out α×St} {u:Unit} {x:St×Option α} (h:t0H o=(.ok u,x)): ∃a,x=(x.1,some a)∧o=(.ok a,x.1):=by
 obtain⟨o,s⟩:=o;cases o<;>(unfold t0H at h;cases h)
 exact⟨_,rfl,rfl⟩
theorem q0O {α:Type} {o:Out α×St} {e:Int} {x:St×Option α} (h:t0H o=(.err e,x)):x=(x.1,none)∧o=(.err e,x.1):=by
 obtain⟨o,s⟩:=o;cases o<;>(unfold t0H at h;cases h)
 exact⟨rfl,rfl⟩
def RSo {α:Type} (W:World) (a:Ad) (f:α→a0C):St×Option α→List a0C
 | (t,some y)=> [whole W,dkC a t.d,dkR a t.d,m0K (l0R t.d),stC a t.bits,mpC a,HL a t,f y]
 | (t,none)=>RS W a t
set_option maxRecDepth 4000 in
theorem j2O (W:World) (hW:h0W W) (a:Ad) (s:St) (b:Nat) (x:Ent) (i:Nat) (data:B) (hi:i<1000000) (hl:data.length≤1000000) (hbits:s.bits≤256) (hnb:(r0K x i data s).1≠ .big):
 a0F prog 118 #[ptr a.core,ptr b,.int .i64 i,b0B data] (RS W a s++ [r0Y b x]) (Ran fT (RSo W a (r0Y b)) k0I (t0H (r0K x i data s))):=by
 have e0:r0K x i data s=a0B (i0Q data) (fun r=>a0B (l0P x.root i r) fun q=>ret {x with root:=q}) s:=rfl;refine ns ?_;refine en func118 ntmps118 fun R w0=> ?_;refine f1J (.soft 0 (.soft 1 (.soft 2 (.soft 3 (.soft 4 (.soft 5 (.soft 6 (.soft 7 (.soft 9 (.soft 10 (.soft 11 (.soft 12 (.soft 13 (.soft 14 (.soft 15 (.soft 16 (.soft 17 (.two 8 (.hard 18 (.hard 19 (.soft 20 (.soft 21 (.hard 22 .done))))) 18 (.hard 8 (.hard 19 (.soft 20 (.soft 21 (.hard 22 .done))))))))))))))))))))))) [HLX a,mpC a] Fol.o (by kernel_rfl) (by repeat (first|with_reducible exact b0S.bp|with_reducible apply b0S.then|with_reducible apply b0S.inBlock)) (h0M gSp) ?_;refine go 4 ?_;refine c0V rfl (a1C Sc.o rfl gFd (fun _ _=>rfl)) ?_;refine go 7 ?_;refine c0V rfl (a1C Sc.o rfl gFd (fun _ _=>rfl)) ?_;refine go 4 ?_;refine q0A rfl rfl ?_ ?_
 ·refine a0D (b0M Sc.o rfl rfl) ?_;refine go 1 ?_;refine i0R (h0M gSp) ?_;refine go 1 ?_;refine a0X rfl Hb.o rfl (p1R W hW a s data hl hbits (by rw[e0]at hnb;exact c0I hnb)) gSp (fun r t ho=> ?_) (fun e t ho=>by refine pn ?_;exact kx ((show t0H (r0K x i data s)=(.err e,(t,none)) by rw[e0,a0I ho];rfl)));refine ns ?_;refine go 1 ?_;refine i0R (h0M gSp) ?_;refine go 1 ?_;have hb1:=n1I data s;rw[ho]at hb1;have hb1:t.bits=s.bits:=hb1;have e1:=e0.trans (a0A ho);clear ho;refine a0X rfl Hb.o rfl (e1N W hW a t x.root i r (by omega) hi (by rw[e1]at hnb;exact c0I hnb)) gSp (fun q t' ho=> ?_) (fun e t ho=>by refine pn ?_;exact kx ((show t0H (r0K x i data s)=(.err e,(t,none)) by rw[e1,a0I ho];rfl)));refine ns ?_;refine go 1 ?_;refine i0R (h0M gSp) ?_;refine go 3 ?_;refine d0P (cs':=h0L {x with root:=q}) Sz.o rfl rfl rfl (by rfl) rfl ?_;refine go 1 ?_;refine i0R (h0M gSp) ?_;refine go 1 ?_;exact fR (s:=(t',some {x with root:=q})) (by rw[e1,a0A ho];rfl)
 ·refine a0X rfl Hb.o rfl (p1R W hW a s data hl hbits (by rw[e0]at hnb;exact c0I hnb)) gSp (fun r t ho=> ?_) (fun e t ho=>by refine pn ?_;exact kx ((show t0H (r0K x i data s)=(.err e,(t,none)) by rw[e0,a0I ho];rfl)));refine ns ?_;refine go 1 ?_;refine i0R (h0M gSp) ?_;refine go 1 ?_;refine a0D (b0M Sc.o rfl rfl) ?_;refine go 1 ?_;refine i0R (h0M gSp) ?_;refine go 1 ?_;have hb1:=n1I data s;rw[ho]at hb1;have hb1:t.bits=s.bits:=hb1;have e1:=e0.trans (a0A ho);clear ho;refine a0X rfl Hb.o rfl (e1N W hW a t x.root i r (by omega) hi (by rw[e1]at hnb;exact c0I hnb)) gSp (fun q t' ho=> ?_) (fun e t ho=>by refine pn ?_;exact kx ((show t0H (r0K x i data s)=(.err e,(t,none)) by rw[e1,a0I ho];rfl)));refine ns ?_;refine go 1 ?_;refine i0R (h0M gSp) ?_;refine go 3 ?_;refine d0P (cs':=h0L {x with root:=q}) Sz.o rfl rfl rfl (by rfl) rfl ?_;refine go 1 ?_;refine i0R (h0M gSp) ?_;refine go 1 ?_;exact fR (s:=(t',some {x with root:=q})) (by rw[e1,a0A ho];rfl)
theorem t2V (x:Ent) (i:Nat):PB (o0U x i):=b0P (n1K _ _ _) a2N
theorem a2W (x:Ent) (i:Nat) (d:B):PB (r0K x i d):=b0P (n1I _) fun _=>b0P (n1L _ _ _) fun _=>d0C _
theorem l1I {x:Hd} {s:St} (hd:l0R s.d): ∀ {n:Nat} {t:St} {b:B},f0N x n s=(.ok b,t)→b.length=64*n
 |0,t,b,h=>by cases h;rfl
 |n+1,t,b,h=>by
  unfold f0N at h;simp only at h;have hro:=e1O x n;generalize x.at_.getD (4- (n+1)) 0=i at h;generalize x.sums.getD (4- (n+1)) 0=c at h;have key: ∀ {m:M B},RO m→(∀ {t b},m s=(.ok b,t)→b.length=64)→a0B m (fun s=>a0B (f0N x n) fun r=>ret (s++r)) s=(.ok b,t)→b.length=64*(n+1):=by
   intro m hm h64 h;cases hg:m s with
   |mk o u=>
    have hu:u=s:=by have:=hm s;rw[hg]at this;exact this
    subst hu;cases o with
    |ok v=>
     rw[a0A hg]at h;cases hg2:f0N x n u with
     |mk o2 u2=>
      cases o2 with
      |ok r=>
       rw[a0A hg2]at h;cases h
       rw[List.length_append,h64 hg,l1I hd hg2];omega
      |err e=>rw[a0I hg2]at h;cases h
      |big=>unfold a0B at h;rw[hg2]at h;cases h
    |err e=>rw[a0I hg]at h;cases h
    |big=>unfold a0B at h;rw[hg]at h;cases h
  refine key (f1Z (p0S (g1A _) fun _=>f1Z (fun _=>rfl) (t0G _)) (t0G _)) ?_ h;intro t b h;split at h
  ·cases hg:h0P i s with
   |mk o u=>
    cases o with
    |ok v=>
     rw[a0A hg]at h;split at h
     ·cases h
     ·cases h;exact u1K hd (w0Q hg).2
    |err e=>rw[a0I hg]at h;cases h
    |big=>unfold a0B at h;rw[hg]at h;cases h
  ·cases h;rfl
theorem o2R {s t:St} {a:Int} {b:B} (hd:l0R s.d) (h:k0R a s=(.ok b,t)):b.length=256:=by
 unfold k0R at h;split at h
 ·cases h;simp[a0K]
 ·cases hg:g0W a s with
  |mk o u=>
   cases o with
   |ok x=>
    rw[a0A hg]at h;have hu:=(q0M hg).1;subst hu;exact l1I hd h
   |err e=>rw[a0I hg]at h;cases h
   |big=>unfold a0B at h;rw[hg]at h;cases h
theorem v1B {x:Ent} {i:Nat} {s t:St} {b:B} (hd:l0R s.d) (h:o0U x i s=(.ok b,t)):t=s∧b.length=256:=by
 have h1:=n1P x i s;rw[h]at h1;refine⟨h1,?_⟩;unfold o0U at h;cases hg:k0S 2 x.root i s with
 |mk o u=>
  cases o with
  |ok v=>
   rw[a0A hg]at h;have hu:=a1B 2 x.root i s;rw[hg]at hu;subst hu;exact o2R hd h
  |err e=>rw[a0I hg]at h;cases h
  |big=>unfold a0B at h;rw[hg]at h;cases h
theorem o2S {k:Nat} {x:Ent} {at_:Nat} {data:B} (h:data≠ []):j0L (k+1) x at_ data=a0B (o0U x (at_/4)) fun was=>
 a0B (r0K x (at_/4) (was.take (at_%4*64)++data.take (min data.length (256-at_%4*64))++was.drop (at_%4*64+min data.length (256-at_%4*64)))) fun x=>j0L k x (at_+min data.length (256-at_%4*64)/64) (data.drop (min data.length (256-at_%4*64))):=by
 conv=>lhs;unfold j0L
 rw[if_neg h]
theorem j2P {k:Nat} {x:Ent} {at_:Nat} :j0L k x at_ []=ret x:=by cases k<;>rfl
theorem h0B (x y:B):bs (x++y)=bs x++bs y:=by
 apply ByteArray.ext;rw[ByteArray.data_append];simp[bs]
theorem x1Y (was d:B) (f n:Nat):(bs was).extract 0 ((f:Int).toNat)++(bs d).extract 0 ((n:Int).toNat)++(bs was).extract (((f:Int)+(n:Int)).toNat) (bs was).size=bs (was.take f++d.take n++was.drop (f+n)):=by
 rw[show((f:Int)+(n:Int)).toNat=f+n by omega,Int.toNat_natCast,Int.toNat_natCast,z0V,z0V,w0M,←h0B,←h0B]
set_option maxRecDepth 4000 in
theorem l1J (W:World) (hW:h0W W) (a:Ad) (s:St) (b:Nat) (x:Ent) (at_:Nat) (data:B) (hi:at_+data.length<1000000) (hbits:s.bits≤256) (hnb:(e0N x at_ data s).1≠ .big):
 a0F prog 68 #[ptr a.core,ptr b,.int .i64 at_,b0B data] (RS W a s++ [r0Y b x]) (Ran fT (RSo W a (r0Y b)) k0I (t0H (e0N x at_ data s))):=by
 refine ns ?_;refine en func68 ntmps68 fun R w0=> ?_;refine go 1 ?_;refine a0V (X:= {y:Nat×St×Ent×Nat×B // y.2.2.2.2.length≤y.1∧y.2.2.2.1+y.2.2.2.2.length<1000000∧y.2.1.bits=s.bits∧e0N x at_ data s=j0L y.1 y.2.2.1 y.2.2.2.1 y.2.2.2.2 y.2.1}) (fun y=> [(0,ptr a.core),(1,ptr b),(2,.int .i64 y.1.2.2.2.1),(3,b0B y.1.2.2.2.2)]) (fun y=>RS W a y.1.2.1++ [r0Y b y.1.2.2.1,R]) (fun y=>y.1.1) ⟨(data.length,s,x,at_,data),Nat.le_refl _,hi,rfl,rfl⟩ gSu gSp ?_;rintro⟨⟨k,u,x',at',d⟩,hk,ha,hub,he⟩ m0 hm0
 try simp only at hm0
 try dsimp only
 simp only at hk ha hub he;refine ns ?_;refine go 5 ?_;rw[b0F];refine go 3 ?_;refine a0P rfl (fun hb14=> ?_) (fun hb14=> ?_)
 ·have hd0:0<d.length:=by have h:=hb14;simp only[decide_eq_true_eq]at h;omega
  obtain⟨j,rfl⟩: ∃j,k=j+1:=⟨k-1,by omega⟩;rw[o2S (by intro e;rw[e]at hd0;exact absurd hd0 (by decide))]at he;obtain⟨f,hf⟩: ∃f,f=at'%4*64:=⟨_,rfl⟩;have hfl:f≤192:=by omega
  obtain⟨n,hn⟩: ∃n,n=min d.length (256-f):=⟨_,rfl⟩;rw[←hf,←hn]at he;refine go 10 ?_;rw[show((at':Nat):Int)/4=((at'/4:Nat):Int) by omega,show((at':Nat):Int)%4*64=(f:Int) by omega];refine go 8 ?_;rw[b0F];refine go 3 ?_;rw[show min ((d.length:Nat):Int) (256- (f:Int))=(n:Int) by omega];refine go 4 ?_;refine o0E (p:=l0R u.d) gFd fun hdk=> ?_;refine go 6 ?_;refine a0X rfl Hb.o rfl (j2N W a u x' (at'/4) (by omega)) gSp (fun was t ho=> ?_) (fun e t ho=>by refine pn ?_;exact kx ((show t0H (e0N x at_ data s)=(.err e,(t,none)) by rw[he,a0I ho];rfl)));refine ns ?_;obtain⟨hts,hwl⟩:=v1B hdk ho;rw[hts]at ho ⊢;rw[a0A ho]at he;have hws:(bs was).size=256:=by rw[b0F,hwl]
  have hds:(bs d).size=d.length:=b0F d;refine go 4 ?_;refine tl 16 ?_;refine go 5 ?_;refine b0X (c1R Tst.o rfl rfl (by omega)) ?_;refine go 2 ?_;refine b0X (c1R Tst.o rfl rfl (by omega)) ?_;refine b0X (g0Y rfl rfl (by simp only[ByteArray.size_append,ByteArray.size_extract,maxLen];omega)) ?_;refine go 4 ?_;refine b0X (c1Q Tst.o rfl rfl (by omega)) ?_;refine b0X (g0Y rfl rfl (by simp only[ByteArray.size_append,ByteArray.size_extract,maxLen];omega)) ?_;refine go 1 ?_;rw[x1Y was d f n];refine a0X rfl Hb.o rfl (j2O W hW a u b x' (at'/4) (was.take f++d.take n++was.drop (f+n)) (by omega) (by simp only[List.length_append,List.length_take,List.length_drop];omega) (by omega) (by rw[he]at hnb;exact c0I hnb)) gSp (fun v ⟨t',ox⟩ ho=> ?_) (fun e t ho=>by refine pn ?_;(obtain⟨t1,t2⟩:=t;obtain⟨hx,hm⟩:=q0O ho;obtain rfl:t2=none:=congrArg Prod.snd hx;have hm:_=(Out.err e,t1):=hm;exact b0W (by rw[he,a0I hm];rfl) idh gSp));refine ns ?_;refine go 1 ?_;obtain⟨y,hx,hm⟩:=s0L ho;obtain rfl:ox=some y:=congrArg Prod.snd hx;have hm:_=(Out.ok y,t'):=hm;simp only[RSo,List.cons_append,List.nil_append];rw[a0A hm]at he;have hpb:=a2W x' (at'/4) (was.take f++d.take n++was.drop (f+n)) u;rw[hm]at hpb;refine go 5 ?_;refine a0D (c1Q Tst.o rfl rfl (by omega)) ?_;rw[Int.toNat_natCast,w0M];refine go 8 ?_;rw[show((at':Nat):Int)+(n:Int)/64=((at'+n/64:Nat):Int) by omega];refine go 2 ?_;exact rd idh (⟨(j,t',y,at'+n/64,d.drop n),by(show(d.drop n).length≤j);rw[List.length_drop];omega,by(show at'+n/64+(d.drop n).length<1000000);rw[List.length_drop];omega,hpb.trans hub,he⟩)
 ·have hd0:d= []:=List.eq_nil_of_length_eq_zero (by have h:=hb14;simp only[decide_eq_false_iff_not]at h;omega);subst hd0;rw[j2P]at he;refine go 1 ?_;exact fR (s:=(u,some x')) (by rw[he];rfl)
section
theorem j2Q (X:BitVec 32):l0G X.toNat 4=Sha.be4 X:=by
 have h: ∀k:Nat,k≤24→UInt8.ofNat (X.toNat/2^k)=(⟨(X >>> k).setWidth 8⟩:UInt8):=fun k hk=>by
  apply UInt8.toNat_inj.1;rw[UInt8.toNat_ofNat'];show _=((X >>> k).setWidth 8).toNat;rw[BitVec.toNat_setWidth,BitVec.toNat_ushiftRight,Nat.shiftRight_eq_div_pow]
 have h0:X.toNat=X.toNat/2^0:=by simp
 show [UInt8.ofNat (X.toNat/256^3),UInt8.ofNat (X.toNat/256^2),UInt8.ofNat (X.toNat/256^1),UInt8.ofNat (X.toNat/256^0)]=_;rw[show(256:Nat)^3=2^24 from rfl,show(256:Nat)^2=2^16 from rfl,show(256:Nat)^1=2^8 from rfl,show(256:Nat)^0=2^0 from rfl,h 24 (by omega),h 16 (by omega),h 8 (by omega),h 0 (by omega)];unfold Sha.be4;rw[show X >>> 0=X from BitVec.ushiftRight_zero X]
theorem j2R (n:Nat):l0G n 8=Sha.be8 n:=rfl
theorem j2S (w v:List Sha.W) (i:Nat):Sha.j0N w v (i+1)=Sha.rnd (Sha.j0N w v i) (Sha.at_ Sha.e0G i) (Sha.at_ w i):=rfl
theorem a2X (n j:Nat) (hj:j≤Sha.m0M n):((n+1+j)%64≠56)=(j<Sha.m0M n):=by
 unfold Sha.m0M at*
 apply propext;constructor<;>intro h<;>omega
theorem o2T {h v:List Sha.W} {i:Nat} (hh:h.length=8) (hv:v.length=8) (hi:i<8):
 ((List.zipWith (· + ·) h v).take i++h.drop i).set i (Sha.at_ h i+Sha.at_ v i)=(List.zipWith (· + ·) h v).take (i+1)++h.drop (i+1):=by
 have hz:(List.zipWith (· + ·) h v).length=8:=by rw[List.length_zipWith,hh,hv];rfl
 have hl:((List.zipWith (· + ·) h v).take i).length=i:=by rw[List.length_take];omega
 rw[List.set_append_right _ _ (by omega),hl,Nat.sub_self,List.drop_eq_getElem_cons (by omega),List.set_cons_zero,List.take_succ,List.getElem?_eq_getElem (by omega)];simp only[List.getElem_zipWith,Option.toList_some,List.append_assoc,List.singleton_append];unfold Sha.at_;rw[List.getD_eq_getElem?_getD,List.getD_eq_getElem?_getD,List.getElem?_eq_getElem (by omega),List.getElem?_eq_getElem (by omega)];rfl
theorem w2I {h v:List Sha.W} {i:Nat} (hh:h.length=8) (hv:v.length=8) (hi:i<8):nth (((List.zipWith (· + ·) h v).take i++h.drop i).map i32) i=some (i32 (Sha.at_ h i)):=by
 have hz:(List.zipWith (· + ·) h v).length=8:=by rw[List.length_zipWith,hh,hv];rfl
 have hl:((List.zipWith (· + ·) h v).take i).length=i:=by rw[List.length_take];omega
 rw[d0Y,List.getElem?_map,List.getElem?_append_right (by omega),hl,Nat.sub_self,List.getElem?_drop,Nat.add_zero,List.getElem?_eq_getElem (by omega)];unfold Sha.at_;rw[List.getD_eq_getElem?_getD,List.getElem?_eq_getElem (by omega)];rfl
theorem o2U {v:List Sha.W} (h:v.length=8):v.map i32= [i32 (Sha.at_ v 0),i32 (Sha.at_ v 1),i32 (Sha.at_ v 2),i32 (Sha.at_ v 3),i32 (Sha.at_ v 4),i32 (Sha.at_ v 5),i32 (Sha.at_ v 6),i32 (Sha.at_ v 7)]:=by
 match v,h with
 | [a,b,c,d,e,f,g,i],_=>rfl
theorem e2L (n:Nat) (h:List Sha.W) (b:B):Sha.f0A (n+1) h b=Sha.f0A n (Sha.mix h (b.take 64)) (b.drop 64):=rfl
abbrev n64 (x:BitVec 32):Value:= .int .i64 (x.toNat:Int)
set_option maxRecDepth 8000
theorem i1X (s:B) (hs:s.length≤100000):a0F prog 188 #[b0B s] [] (a0T (b0B (Sha.sum s)) []):=by
 have hss:(bs s).size=s.length:=b0F s;obtain⟨p,hp⟩: ∃p,p=Sha.l0T s:=⟨_,rfl⟩;have hfl:Sha.m0M s.length<64:=by unfold Sha.m0M;omega
 have hpl:p.length=s.length+1+Sha.m0M s.length+8:=by rw[hp];simp[Sha.l0T,Sha.be8];omega
 have hp64:p.length%64=0:=by rw[hpl];unfold Sha.m0M;omega
 have hsl:Sha.start.length=8:=rfl;obtain⟨tot,htot⟩: ∃tot,tot=p.length/64:=⟨_,rfl⟩;have hsum:Sha.sum s=(Sha.f0A tot Sha.start p).flatMap Sha.be4:=by rw[htot,hp];rfl
 refine en func188 ntmps188 fun R w0=> ?_;refine go 7 ?_;refine bl fun b26=> ?_;refine e0K (fun w h=>a1T (n:=8) (cs:=Sha.start.map i32) rfl (by simp[maxLen]) h) ?_;refine go 6 ?_;refine a0D (g0Y rfl rfl (by rw[b0F,show(⟨#[128]⟩:ByteArray).size=1 from rfl];omega)) ?_;rw[show bs s++(⟨#[128]⟩:ByteArray)=bs (s++128::a0K 0)from(h0B s [128]).symm];refine go 5 ?_;refine a0V (X:= {j:Nat // j≤Sha.m0M s.length}) (fun y=> [(0,b0B s),(3,.slice (some ⟨b26,0,none⟩) 8 8),(4,b0B (s++128::a0K y.1))]) (fun y=> [b0H 3 1 (.slice (some ⟨b26,0,none⟩) 8 8) 8 (Sha.start.map i32),R]) (fun y=>Sha.m0M s.length-y.1) ⟨0,Nat.zero_le _⟩ gSu gSp ?_;rintro⟨j,hj⟩ m0 hm0
 try simp only at hm0
 try dsimp only
 skip;refine go 5 ?_;rw[b0F,show(s++128::a0K j).length=s.length+1+j by simp[a0K];omega];refine go 4 ?_;refine a0P rfl (fun hb32=> ?_) (fun hb32=> ?_)
 ·have hjl:j<Sha.m0M s.length:=by
   rw[←a2X s.length j hj];have h:=hb32;simp only[bne_iff_ne,ne_eq]at h;omega
  refine go 5 ?_;refine a0D (g0Y rfl rfl (by rw[b0F,show(⟨#[0]⟩:ByteArray).size=1 from rfl];simp[a0K];omega)) ?_;rw[show bs (s++128::a0K j)++(⟨#[0]⟩:ByteArray)=bs (s++128::a0K (j+1)) by rw[show(⟨#[0]⟩:ByteArray)=bs [0]from rfl,←h0B,show s++128::a0K j++ [0]=s++128::a0K (j+1) by simp[a0K,List.replicate_succ']]];refine go 2 ?_;exact rd idh (⟨j+1,hjl⟩)
 ·obtain rfl:j=Sha.m0M s.length:=by
   have h1: ¬(s.length+1+j)%64≠56:=by have h:=hb32;simp only[bne_eq_false_iff_eq]at h;omega
   rw[a2X s.length j hj]at h1;omega
  refine go 7 ?_;rw[hss];refine go 1 ?_;rw[show(8:Int)*((s.length:Nat):Int)=((8*s.length:Nat):Int) by omega];refine cg 0 (g1Q (8*s.length) 8 (by omega) (by omega)) ?_;refine a0D (g0Y rfl rfl (by rw[b0F,b0F];simp[a0K,l0G];omega)) ?_;rw[show bs (s++128::a0K (Sha.m0M s.length))++bs (l0G (8*s.length) 8)=bs p by rw[←h0B,j2R,hp];unfold Sha.l0T a0K;simp];refine ce 5 (q1I) ?_;rintro v5 _;refine ns ?_;simp only[id];refine go 10 ?_;refine a0V (X:= {x:Nat×List Sha.W // x.1≤tot∧x.2.length=8∧Sha.f0A tot Sha.start p=Sha.f0A (tot-x.1) x.2 (p.drop (64*x.1))}) (fun y=> [(3,.slice (some ⟨b26,0,none⟩) 8 8),(4,b0B p),(5,v5),(6,.int .i64 (64*(y.1.1:Int)))]) (fun y=> [b0H 3 1 (.slice (some ⟨b26,0,none⟩) 8 8) 8 (y.1.2.map i32),b0H 3 1 v5 64 (Sha.e0G.map i32),R]) (fun y=>tot-y.1.1) ⟨(0,Sha.start),Nat.zero_le _,hsl,rfl⟩ gSu gSp ?_;rintro⟨⟨m,h⟩,hm,hhl,hmx⟩ m2 hm2
  try simp only at hm2
  try dsimp only
  simp only at hm hhl hmx;have hps:(bs p).size=p.length:=b0F p;refine go 6 ?_;rw[hps];refine go 3 ?_;refine a0P rfl (fun hb45=> ?_) (fun hb45=> ?_)
  ·have hml:m<tot:=by have:=of_decide_eq_true hb45;omega
   obtain⟨blk,hblk⟩: ∃blk,blk=(p.drop (64*m)).take 64:=⟨_,rfl⟩;have hbl:blk.length=64:=by rw[hblk,List.length_take,List.length_drop];omega
   obtain⟨ws,hws⟩: ∃ws,ws=Sha.k0G blk:=⟨_,rfl⟩;have hwl:ws.length=64:=by rw[hws];exact Sha.o1L blk
   have hrl:Sha.e0G.length=64:=rfl;refine go 10 ?_;refine a0D (e1Y Tst.o rfl rfl rfl (by omega)) ?_;rw[show(bs p).extract (64*(m:Int)).toNat (64*(m:Int)+64).toNat=bs blk by rw[k1O,hblk,List.drop_take];congr 2<;>omega];refine ce 0 (x1R blk hbl) ?_;rintro v7 _;refine ns ?_;simp only[id];rw[←hws];refine go 7 ?_;refine b0X (a0U (v:=n64 (Sha.at_ h 0)) Sc.o rfl gFd (i0C h 0 (by omega))) ?_;refine go 2 ?_;refine b0X (a0U (v:=n64 (Sha.at_ h 1)) Sc.o rfl gFd (i0C h 1 (by omega))) ?_;refine go 2 ?_;refine b0X (a0U (v:=n64 (Sha.at_ h 2)) Sc.o rfl gFd (i0C h 2 (by omega))) ?_;refine go 2 ?_;refine b0X (a0U (v:=n64 (Sha.at_ h 3)) Sc.o rfl gFd (i0C h 3 (by omega))) ?_;refine go 2 ?_;refine b0X (a0U (v:=n64 (Sha.at_ h 4)) Sc.o rfl gFd (i0C h 4 (by omega))) ?_;refine go 2 ?_;refine b0X (a0U (v:=n64 (Sha.at_ h 5)) Sc.o rfl gFd (i0C h 5 (by omega))) ?_;refine go 2 ?_;refine b0X (a0U (v:=n64 (Sha.at_ h 6)) Sc.o rfl gFd (i0C h 6 (by omega))) ?_;refine go 2 ?_;refine b0X (a0U (v:=n64 (Sha.at_ h 7)) Sc.o rfl gFd (i0C h 7 (by omega))) ?_;refine go 17 ?_;refine a0V (X:= {i:Nat // i≤64}) (fun y=> [(3,.slice (some ⟨b26,0,none⟩) 8 8),(4,b0B p),(5,v5),(6,.int .i64 (64*(m:Int))),(7,v7),(8,n64 (Sha.at_ (Sha.j0N ws h y.1) 0)),(9,n64 (Sha.at_ (Sha.j0N ws h y.1) 1)),(10,n64 (Sha.at_ (Sha.j0N ws h y.1) 2)),(11,n64 (Sha.at_ (Sha.j0N ws h y.1) 3)),(12,n64 (Sha.at_ (Sha.j0N ws h y.1) 4)),(13,n64 (Sha.at_ (Sha.j0N ws h y.1) 5)),(14,n64 (Sha.at_ (Sha.j0N ws h y.1) 6)),(15,n64 (Sha.at_ (Sha.j0N ws h y.1) 7)),(16,.int .i64 y.1)]) (fun y=> [b0H 3 1 (.slice (some ⟨b26,0,none⟩) 8 8) 8 (h.map i32),b0H 3 1 v5 64 (Sha.e0G.map i32),b0H 3 1 v7 64 (ws.map i32),R]) (fun y=>64-y.1) ⟨0,Nat.zero_le _⟩ gSu gSp ?_;rintro⟨i,hi⟩ m4 hm4
   try simp only at hm4
   try dsimp only
   skip;refine go 7 ?_;refine a0P rfl (fun hb79=> ?_) (fun hb79=> ?_)
   ·have hil:i<64:=by have:=of_decide_eq_true hb79;omega
    have hst:=j2S ws h i;obtain⟨va,hva⟩: ∃x,x=Sha.at_ (Sha.j0N ws h i) 0:=⟨_,rfl⟩;obtain⟨vb,hvb⟩: ∃x,x=Sha.at_ (Sha.j0N ws h i) 1:=⟨_,rfl⟩;obtain⟨vc,hvc⟩: ∃x,x=Sha.at_ (Sha.j0N ws h i) 2:=⟨_,rfl⟩;obtain⟨vd,hvd⟩: ∃x,x=Sha.at_ (Sha.j0N ws h i) 3:=⟨_,rfl⟩;obtain⟨ve,hve⟩: ∃x,x=Sha.at_ (Sha.j0N ws h i) 4:=⟨_,rfl⟩;obtain⟨vf,hvf⟩: ∃x,x=Sha.at_ (Sha.j0N ws h i) 5:=⟨_,rfl⟩;obtain⟨vg,hvg⟩: ∃x,x=Sha.at_ (Sha.j0N ws h i) 6:=⟨_,rfl⟩;obtain⟨vz,hvz⟩: ∃x,x=Sha.at_ (Sha.j0N ws h i) 7:=⟨_,rfl⟩;obtain⟨kk,hkk⟩: ∃x,x=Sha.at_ Sha.e0G i:=⟨_,rfl⟩;obtain⟨ww,hww⟩: ∃x,x=Sha.at_ ws i:=⟨_,rfl⟩;unfold Sha.rnd at hst;rw[←hva,←hvb,←hvc,←hvd,←hve,←hvf,←hvg,←hvz,←hkk,←hww]at hst;rw[←hva,←hvb,←hvc,←hvd,←hve,←hvf,←hvg,←hvz];have l1:=(ve &&& vf).isLt;have l2:=(~~~ve &&& vg).isLt;refine go 8 ?_;refine a0D (d1B rfl rfl) ?_;refine go 1 ?_;refine a0D (v2L rfl) ?_;refine go 1 ?_;refine a0D (d1B rfl rfl) ?_;refine a0D (q1W (m:=((ve &&& vf).toNat:Int)) (n:=((~~~ve &&& vg).toNat:Int)) rfl rfl (by omega)) ?_;obtain⟨ch,hch⟩: ∃x,x=(ve &&& vf ^^^ ~~~ve &&& vg):=⟨_,rfl⟩;rw[m2D,←hch];refine go 7 ?_;refine a0D (d1B rfl rfl) ?_;refine go 2 ?_;refine a0D (d1B rfl rfl) ?_;refine a0D (c2B rfl rfl) ?_;refine go 2 ?_;refine a0D (d1B rfl rfl) ?_;refine a0D (c2B rfl rfl) ?_;obtain⟨mj,hmj⟩: ∃x,x=(va &&& vb ^^^ va &&& vc ^^^ vb &&& vc):=⟨_,rfl⟩;rw[v2M,←hmj];refine go 4 ?_;refine i0Y (e:=3) (v:=v5) (show Fnd _ (b0H 3 1 v5 64 (Sha.e0G.map i32)) _ from gFd) (by omega) fun bk capk hvk hcapk=> ?_;subst hvk;refine i0Y (e:=3) (v:=v7) (show Fnd _ (b0H 3 1 v7 64 (ws.map i32)) _ from gFd) (by omega) fun bw capw hvw hcapw=> ?_;subst hvw;obtain⟨s1,hs1⟩: ∃x,x=Sha.t1 ve:=⟨_,rfl⟩;have l3:=vz.isLt;have l4:=s1.isLt;have l5:=ch.isLt;have l6:=kk.isLt;have l7:=ww.isLt;obtain⟨xx,hxx⟩: ∃x,x=vz+s1+ch+kk+ww:=⟨_,rfl⟩;refine mx (.r 0 2 (.soft 3 (.soft 6 (.soft 10 (.r 12 4 (.r 17 4 (.hard 2 (.hard 4 (.soft 5 (.hard 7 (.r 8 2 (.soft 11 (.soft 16 (.soft 21 (.hard 22 (.soft 23 .done)))))))))))))))) [b0H 3 1 (.slice (some ⟨bk,0,none⟩) 64 capk) 64 (Sha.e0G.map i32),b0H 3 1 (.slice (some ⟨bw,0,none⟩) 64 capw) 64 (ws.map i32)] ?_;refine go 8 ?_;refine c0V rfl (a0U (v:=n64 kk) Sc.o rfl gFd (by rw[show 0+((i:Int)).toNat*1=i by omega,hkk];exact i0C Sha.e0G i (by omega))) ?_;refine go 3 ?_;refine c0V rfl (a0U (v:=n64 ww) Sc.o rfl gFd (by rw[show 0+((i:Int)).toNat*1=i by omega,hww];exact i0C ws i (by omega))) ?_;refine cg 1 (l0C ve 6 (by omega) (by omega)) ?_;refine cg 3 (l0C ve 11 (by omega) (by omega)) ?_;refine go 2 ?_;refine c0V rfl (u0Q rfl rfl) ?_;refine cg 1 (l0C ve 25 (by omega) (by omega)) ?_;refine go 2 ?_;refine c0V rfl (show Sl.a0O _ _ _ _ (n64 s1)from hs1▸u0Q rfl rfl) ?_;refine go 5 ?_;refine b0U rfl Hb.o rfl (x0V _ xx (by omega) (by rw[hxx];simp only[BitVec.toNat_add];omega)) gSp ?_;refine ns ?_;refine go 6 ?_;obtain⟨s0,hs0⟩: ∃x,x=Sha.t0 va:=⟨_,rfl⟩;have m1:=s0.isLt;have m2:=mj.isLt;obtain⟨yy,hyy⟩: ∃x,x=s0+mj:=⟨_,rfl⟩;refine cg 2 (l0C va 2 (by omega) (by omega)) ?_;refine cg 1 (l0C va 13 (by omega) (by omega)) ?_;refine a0D (u0Q rfl rfl) ?_;refine cg 1 (l0C va 22 (by omega) (by omega)) ?_;refine a0D (show Sl.a0O _ _ _ _ (n64 s0)from hs0▸u0Q rfl rfl) ?_;refine go 2 ?_;refine b0U rfl Hb.o rfl (x0V _ yy (by omega) (by rw[hyy];simp only[BitVec.toNat_add];omega)) gSp ?_;refine ns ?_;refine go 3 ?_;have q1:=vd.isLt;have q2:=xx.isLt;have q3:=yy.isLt;refine go 7 ?_;refine b0U rfl Hb.o rfl (x0V _ (vd+xx) (by omega) (by simp only[BitVec.toNat_add];omega)) gSp ?_;refine ns ?_;refine go 6 ?_;refine b0U rfl Hb.o rfl (x0V _ (xx+yy) (by omega) (by simp only[BitVec.toNat_add];omega)) gSp ?_;refine ns ?_;refine go 15 ?_;have hnx:Sha.j0N ws h (i+1)= [xx+yy,va,vb,vc,vd+xx,ve,vf,vg]:=by
     rw[hst,hxx,hyy,hs1,hs0,hch,hmj];simp only[List.cons.injEq,true_and,and_true];refine⟨?_,?_⟩<;>(apply BitVec.eq_of_toNat_eq;simp only[BitVec.toNat_add];omega)
    refine c1V idh (⟨i+1,hil⟩) (by first|omega| (simp only;omega)) (by rw[hnx];exact gSu) gSp
   ·obtain rfl:i=64:=by have:=of_decide_eq_false hb79;omega
    obtain⟨v,hv⟩: ∃v,v=Sha.j0N ws h 64:=⟨_,rfl⟩;have hvl:v.length=8:=by rw[hv];exact s1B ws h hhl 64
    rw[←hv];refine go 12 ?_;refine bl fun b157=> ?_;refine e0K (fun w h=>a1T (n:=8) (cs:= [n64 (Sha.at_ v 0),n64 (Sha.at_ v 1),n64 (Sha.at_ v 2),n64 (Sha.at_ v 3),n64 (Sha.at_ v 4),n64 (Sha.at_ v 5),n64 (Sha.at_ v 6),n64 (Sha.at_ v 7)]) rfl (by simp[maxLen]) h) ?_;rw[show [n64 (Sha.at_ v 0),n64 (Sha.at_ v 1),n64 (Sha.at_ v 2),n64 (Sha.at_ v 3),n64 (Sha.at_ v 4),n64 (Sha.at_ v 5),n64 (Sha.at_ v 6),n64 (Sha.at_ v 7)]=v.map i32 from(o2U hvl).symm];refine go 5 ?_;refine a0V (X:= {i:Nat // i≤8}) (fun y=> [(3,.slice (some ⟨b26,0,none⟩) 8 8),(4,b0B p),(5,v5),(6,.int .i64 (64*(m:Int))),(157,.slice (some ⟨b157,0,none⟩) 8 8),(158,.int .i64 8),(159,.int .i64 y.1)]) (fun y=> [b0H 3 1 (.slice (some ⟨b26,0,none⟩) 8 8) 8 (((List.zipWith (· + ·) h v).take y.1++h.drop y.1).map i32),b0H 3 1 (.slice (some ⟨b157,0,none⟩) 8 8) 8 (v.map i32),b0H 3 1 v5 64 (Sha.e0G.map i32),R]) (fun y=>8-y.1) ⟨0,Nat.zero_le _⟩ gSu gSp ?_;rintro⟨i,hi⟩ m6 hm6
    try simp only at hm6
    try dsimp only
    skip;refine go 6 ?_;refine a0P rfl (fun hb160=> ?_) (fun hb160=> ?_)
    ·have hil:i<8:=by have:=of_decide_eq_true hb160;omega
     have r1:=(Sha.at_ h i).isLt;have r2:=(Sha.at_ v i).isLt;refine go 8 ?_;refine a0D (a0U (v:=n64 (Sha.at_ v i)) Sc.o rfl (show Fnd _ (b0H 3 1 (.slice (some ⟨b157,0,none⟩) 8 8) 8 (v.map i32)) _ from gFd) (by rw[show 0+((i:Int)).toNat*1=i by omega];exact i0C v i (by omega))) ?_;refine go 10 ?_;refine a0D (a0U (v:=n64 (Sha.at_ h i)) Sc.o rfl (show Fnd _ (b0H 3 1 (.slice (some ⟨b26,0,none⟩) 8 8) 8 (((List.zipWith (· + ·) h v).take i++h.drop i).map i32)) _ from gFd) (by rw[show 0+((i:Int)).toNat*1=i by omega];exact w2I hhl hvl hil)) ?_;refine go 2 ?_;refine b0U rfl Hb.o rfl (x0V _ (Sha.at_ h i+Sha.at_ v i) (by omega) (by simp only[BitVec.toNat_add];omega)) gSp ?_;refine ns ?_;refine go 1 ?_;refine c0D (xs':=((List.zipWith (· + ·) h v).take (i+1)++h.drop (i+1)).map i32) Sz.o rfl rfl rfl (show Fnd _ (b0H 3 1 (.slice (some ⟨b26,0,none⟩) 8 8) 8 (((List.zipWith (· + ·) h v).take i++h.drop i).map i32)) _ from gFd) (by rw[show 0+((i:Int)).toNat*1=i by omega];simp;omega) (by rw[show 0+((i:Int)).toNat*1=i by omega,←o2T hhl hvl hil,List.map_set];rfl) ?_;refine go 6 ?_;exact rd idh (⟨i+1,hil⟩)
    ·obtain rfl:i=8:=by have:=of_decide_eq_false hb160;omega
     have hmix:(List.zipWith (· + ·) h v).take 8++h.drop 8=Sha.mix h blk:=by
      rw[List.take_of_length_le (by rw[List.length_zipWith];omega),List.drop_of_length_le (by omega),List.append_nil,hv,hws];rfl
     rw[hmix];refine go 5 ?_;rw[show 64*(m:Int)+64=64*((m+1:Nat):Int) by omega];refine go 2 ?_;exact rd idh (⟨(m+1,Sha.mix h blk),hml,by(show(Sha.mix h blk).length=8);exact z1I hhl blk,by(show _=Sha.f0A (tot- (m+1)) (Sha.mix h blk) (p.drop (64*(m+1))));rw[hmx,show tot-m=tot- (m+1)+1 by omega,e2L,←hblk,List.drop_drop];rfl⟩)
  ·obtain rfl:m=tot:=by have:=of_decide_eq_false hb45;omega
   have hfin:Sha.f0A m Sha.start p=h:=by rw[hmx,Nat.sub_self];rfl
   rw[hfin]at hsum;refine go 16 ?_;refine a0V (X:= {i:Nat // i≤8}) (fun y=> [(23,b0B ((h.take y.1).flatMap Sha.be4)),(175,.slice (some ⟨b26,0,none⟩) 8 8),(176,.int .i64 8),(177,.int .i64 y.1)]) (fun y=> [b0H 3 1 (.slice (some ⟨b26,0,none⟩) 8 8) 8 (h.map i32),R]) (fun y=>8-y.1) ⟨0,Nat.zero_le _⟩ gSu gSp ?_;rintro⟨i,hi⟩ m8 hm8
   try simp only at hm8
   try dsimp only
   skip;refine go 6 ?_;refine a0P rfl (fun hb178=> ?_) (fun hb178=> ?_)
   ·have hil:i<8:=by have:=of_decide_eq_true hb178;omega
    have r1:=(Sha.at_ h i).isLt;have hfl4:((h.take i).flatMap Sha.be4).length≤32:=by
     have: ∀l:List Sha.W,(l.flatMap Sha.be4).length=4*l.length:=fun l=>by
      induction l with
      |nil=>rfl
      |cons x l ih=>rw[List.flatMap_cons,List.length_append,ih,List.length_cons];show 4+_=_;omega
     rw[this,List.length_take];omega
    refine go 7 ?_;refine a0D (a0U (v:=n64 (Sha.at_ h i)) Sc.o rfl gFd (by rw[show 0+((i:Int)).toNat*1=i by omega];exact i0C h i (by omega))) ?_;refine cg 6 (g1Q (Sha.at_ h i).toNat 4 (by omega) (by omega)) ?_;refine a0D (g0Y rfl rfl (by rw[b0F,b0F,show(l0G (Sha.at_ h i).toNat 4).length=4 by simp[l0G]];omega)) ?_;rw[←h0B,j2Q,show(h.take i).flatMap Sha.be4++Sha.be4 (Sha.at_ h i)=(h.take (i+1)).flatMap Sha.be4 by rw[List.take_succ,List.getElem?_eq_getElem (by omega),List.flatMap_append];simp[Sha.at_,List.getD_eq_getElem?_getD,List.getElem?_eq_getElem (show i<h.length by omega)]];refine go 7 ?_;exact rd idh (⟨i+1,hil⟩)
   ·obtain rfl:i=8:=by have:=of_decide_eq_false hb178;omega
    rw[List.take_of_length_le (by omega),←hsum];refine go 8 ?_;exact rG
end
def hb (x k:Nat):Nat→Nat
 |0=>0
 |b+1=>2*hb x k b+(if k≤b then 0 else x/2^(7-b)%2)
theorem e2M (x k:Nat): ∀b,hb x k b<2^b
 |0=>Nat.one_pos
 |b+1=>by
  have:=e2M x k b;unfold hb;rw[Nat.pow_succ];split<;>omega
theorem t2W: ∀k,k<8→ ∀x,x<256→hb x k 8=(UInt8.ofNat x &&& UInt8.ofNat (255-255/2^k)).toNat:=by decide+kernel
theorem w2J: ∀x,x<256→hb x 8 8=x:=by decide+kernel
theorem q2M (x k:Nat) (h:8≤k): ∀b,b≤8→hb x k b=hb x 8 b
 |0,_=>rfl
 |b+1,hb8=>by
  unfold hb;rw[q2M x k h b (by omega),if_neg (by omega),if_neg (by omega)]
theorem j2T (n i:Nat) (c:UInt8):(UInt8.ofNat (hb c.toNat (n-8*i) 8))=if n<8*i+8 then c &&& UInt8.ofNat (255-255/2^(n-8*i))else c:=by
 have hc:=c.toNat_lt;apply UInt8.toNat_inj.1;rw[UInt8.toNat_ofNat',Nat.mod_eq_of_lt (e2M _ _ 8)];split
 ·rw[t2W _ (by omega) _ (by omega),UInt8.ofNat_toNat]
 ·rw[q2M _ _ (by omega) 8 (by omega),w2J _ (by omega)]
theorem j2U (n:Nat) (l:B) (i:Nat) (h:i<l.length):(c0W n l).take (i+1)=(c0W n l).take i++ [UInt8.ofNat (hb l[i].toNat (n-8*i) 8)]:=by
 have hl:(c0W n l).length=l.length:=by simp[c0W]
 rw[List.take_succ,List.getElem?_eq_getElem (by omega),j2T];simp[c0W]
theorem e2N (l:B) (n:Nat) (hl:l.length≤10000) (hn:n≤256):a0F prog 261 #[b0B l,.int .i64 n] [] (a0T (b0B (c0W n l)) []):=by
 have hbl:(c0W n l).length=l.length:=by simp[c0W]
 have hls:(bs l).size=l.length:=b0F l;refine en func261 ntmps261 fun R w0=> ?_;refine go 7 ?_;refine bl fun b10=> ?_;refine go 5 ?_;refine b0V (fun w h=>n0U 1 h) ?_;refine go 5 ?_;refine a0V (X:= {x:Nat×Value // x.1≤l.length}) (fun y=> [(0,b0B l),(1,.int .i64 n),(5,y.1.2),(6,.int .i64 y.1.1)]) (fun y=> [b0H 5 1 y.1.2 y.1.1 (((c0W n l).take y.1.1).map a0Q),R]) (fun y=>l.length-y.1.1) ⟨(0,.slice (some ⟨b10,0,none⟩) 0 0),Nat.zero_le _⟩ gSu gSp ?_;rintro⟨⟨i,v⟩,hi⟩ m0 hm0
 try simp only at hm0
 try dsimp only
 simp only at hi;refine go 6 ?_;rw[hls];refine go 3 ?_;refine a0P rfl (fun hb14=> ?_) (fun hb14=> ?_)
 ·have hil:i<l.length:=by have:=of_decide_eq_true hb14;omega
  refine go 16 ?_;refine a0V (X:= {b:Nat // b≤8}) (fun y=> [(0,b0B l),(1,.int .i64 n),(5,v),(6,.int .i64 i),(7,.int .i64 (hb l[i].toNat (n-8*i) y.1)),(8,.int .i64 y.1)]) (fun y=> [b0H 5 1 v i (((c0W n l).take i).map a0Q),R]) (fun y=>8-y.1) ⟨0,by decide⟩ gSu gSp ?_;rintro⟨b,hb8⟩ m2 hm2
  try simp only at hm2
  try dsimp only
  skip;refine go 7 ?_;refine a0P rfl (fun hb18=> ?_) (fun hb18=> ?_)
  ·have hbl8:b<8:=by have:=of_decide_eq_true hb18;omega
   have hc:=(l[i]).toNat_lt;have hhb:=e2M l[i].toNat (n-8*i) b;have hhb2:(2:Nat)^b≤2^7:=Nat.pow_le_pow_right (by decide) (by omega);have hu:(bs l).data.toList[i]? =some l[i]:=by rw[l0M,List.getElem?_eq_getElem hil]
   have hsh:((l[i].toNat:Nat):Int)/2^((7:Int)- (b:Int)).toNat=((l[i].toNat/2^(7-b):Nat):Int):=by rw[show((7:Int)- (b:Int)).toNat=7-b by omega];norm_cast
   refine go 8 ?_;refine a0D (c1P Tst.o rfl rfl (by omega) (u:=l[i]) hu) ?_;refine go 1 ?_;rw[g1R];refine go 2 ?_;refine a0D (s0N rfl rfl (by first|decide| (simp only[IntKind.bits];omega))) ?_;rw[hsh];refine a0D (j1J rfl rfl ⟨Int.natCast_nonneg _,by decide⟩) ?_;refine go 3 ?_;refine i0P (X:=Unit) (fun _=> [(0,b0B l),(1,.int .i64 n),(5,v),(6,.int .i64 i),(7,.int .i64 (hb l[i].toNat (n-8*i) b)),(8,.int .i64 b),(9,.int .i64 ((if n-8*i≤b then 0 else l[i].toNat/2^(7-b)%2:Nat):Int))]) (fun _=> [b0H 5 1 v i (((c0W n l).take i).map a0Q),R]) ?_ ?_
   ·refine go 10 ?_;refine a0P rfl (fun hb34=> ?_) (fun hb34=> ?_)
    ·have hle:n-8*i≤b:=by have h:=hb34;simp only[decide_eq_true_eq]at h;omega
     rw[if_pos hle];refine go 3 ?_;exact me idh (())
    ·have hle: ¬n-8*i≤b:=by have h:=hb34;simp only[decide_eq_false_iff_not]at h;omega
     rw[if_neg hle];refine go 1 ?_;exact me idh (())
   rintro _;obtain⟨bt,hbt⟩: ∃bt:Nat,bt=if n-8*i≤b then 0 else l[i].toNat/2^(7-b)%2:=⟨_,rfl⟩
   have hbt2:bt≤1:=by rw[hbt];split<;>omega
   rw[←hbt];refine go 5 ?_;rw[show(2:Int)*((hb l[i].toNat (n-8*i) b:Nat):Int)+(bt:Int)=((hb l[i].toNat (n-8*i) (b+1):Nat):Int) by rw[hbt];show _=((2*hb l[i].toNat (n-8*i) b+_:Nat):Int);omega];refine go 8 ?_;exact rd idh (⟨b+1,hbl8⟩)
  ·obtain rfl:b=8:=by have:=of_decide_eq_false hb18;omega
   obtain⟨u,hu⟩: ∃u,u=UInt8.ofNat (hb l[i].toNat (n-8*i) 8):=⟨_,rfl⟩;have hwr:IntKind.u8.wrap ((hb l[i].toNat (n-8*i) 8:Nat):Int)=(u.toNat:Int):=by rw[hu,IntKind.wrap_u8,UInt8.toNat_ofNat'];omega
   refine go 6 ?_;rw[hwr];refine bl fun b42=> ?_;refine(c0Z Tsl.o Ttb.o Zr.o rfl rfl rfl gFd (e0Z Tsl.o (by simp;rfl) (by simp) (by simp[Value.oneCell'])) (by simp only[maxLen];omega) (by omega) (fun v43 hv43=> ?_));refine go 2 ?_;rw[show((c0W n l).take i).map a0Q++ [Value.int .u8 (u.toNat:Int)]=((c0W n l).take (i+1)).map a0Q by rw[j2U n l i hil,←hu];simp[a0Q]];refine go 6 ?_;exact rd idh (⟨(i+1,v43),hil⟩)
 ·obtain rfl:i=l.length:=by have:=of_decide_eq_false hb14;omega
  rw[List.take_of_length_le (by omega)];refine go 5 ?_;refine a0D (y0B Tsl.o Tst.o Tby.o rfl gFd) ?_;refine go 3 ?_;exact rG
theorem v1C (l:B) (i:Nat) (h:i<l.length):a0R (l.take (i+1))=(a0R (l.take i)&&l[i] == 0):=by
 rw[List.take_succ,List.getElem?_eq_getElem h];unfold a0R;rw[List.all_append];simp
theorem v0Y (l:B) (hl:l.length≤1000000):a0F prog 173 #[b0B l] [] (a0T (.bool (a0R l)) []):=by
 have hls:(bs l).size=l.length:=b0F l;refine en func173 ntmps173 fun R w0=> ?_;refine go 12 ?_;refine a0V (X:= {i:Nat // i≤l.length∧a0R (l.take i)=true}) (fun y=> [(0,b0B l),(3,.int .i64 y.1)]) (fun y=> [R]) (fun y=>l.length-y.1) ⟨0,Nat.zero_le _,rfl⟩ gSu gSp ?_;rintro⟨i,hi,hz⟩ m0 hm0
 try simp only at hm0
 try dsimp only
 skip;refine go 6 ?_;rw[hls];refine go 3 ?_;refine a0P rfl (fun hb7=> ?_) (fun hb7=> ?_)
 ·have hil:i<l.length:=by have:=of_decide_eq_true hb7;omega
  have hu:(bs l).data.toList[i]? =some l[i]:=by rw[l0M,List.getElem?_eq_getElem hil]
  have hst:=v1C l i hil;refine go 8 ?_;refine a0D (c1P Tst.o rfl rfl (by omega) (u:=l[i]) hu) ?_;refine go 3 ?_;refine a0P rfl (fun hb13=> ?_) (fun hb13=> ?_)
  ·have hne: ¬l[i]=0:=by intro h;rw[h]at hb13;exact absurd hb13 (by decide)
   have hf:a0R l=false:=by
    cases ha:a0R l with
    |false=>rfl
    |true=>
     unfold a0R at ha;rw[List.all_eq_true]at ha;exact absurd (by simpa using ha l[i] (List.getElem_mem hil)) hne
   refine go 5 ?_;exact rG (hu:=(by rw[hf]))
  ·have heq:l[i]=0:=UInt8.toNat_inj.1 (by have h:=hb13;simp only[bne_eq_false_iff_eq]at h;have e:(0:UInt8).toNat=0:=rfl;omega);refine go 7 ?_;exact rd idh (⟨i+1,hil,by rw[hst,hz,heq];rfl⟩)
 ·obtain rfl:i=l.length:=by have:=of_decide_eq_false hb7;omega
  rw[List.take_of_length_le (by omega)]at hz;refine go 7 ?_;exact rG (hu:=(by rw[hz]))
abbrev x2Y (n:Int):Value:= .agg #[.slice none 0 0,.int .i64 n]
theorem l1K (l:B) (n:Nat) (hl:l.length≤100000) (hn:n≤256):a0F prog 208 #[x2Y n,b0B l] [] (a0T (b0B (key n (Sha.sum l))) []):=by
 refine en func208 ntmps208 fun R w0=> ?_;refine go 2 ?_;refine bx fun b2=> ?_;refine go 4 ?_;refine mx (.soft 0 (.r 2 2 (.hard 1 (.hard 4 (.soft 5 .done))))) [pts b2 (.cells #[.slice none 0 0,.int .i64 n] 277 (0,0))] ?_;refine cg 4 (i1X l hl) ?_;refine cg 3 (e2N (Sha.sum l) n (by rw[p0L];omega) hn) ?_;refine go 5 ?_;exact rG
theorem x1Z (n:Nat) (hn:n≤10000):a0F prog 171 #[.int .i64 n] [] (a0T (b0B (a0K (64*n))) []):=by
 refine en func171 ntmps171 fun R w0=> ?_;refine go 17 ?_;refine a0V (X:= {j:Nat // j≤64*n}) (fun y=> [(0,.int .i64 n),(3,b0B (a0K y.1)),(4,.int .i64 y.1)]) (fun y=> [R]) (fun y=>64*n-y.1) ⟨0,Nat.zero_le _⟩ gSu gSp ?_;rintro⟨j,hj⟩ m0 hm0
 try simp only at hm0
 try dsimp only
 skip;refine go 9 ?_;refine a0P rfl (fun hb8=> ?_) (fun hb8=> ?_)
 ·have hjl:j<64*n:=by have:=of_decide_eq_true hb8;omega
  refine go 6 ?_;refine a0D (g0Y rfl rfl (by rw[b0F,show(⟨#[0]⟩:ByteArray).size=1 from rfl];simp[a0K];omega)) ?_;rw[show bs (a0K j)++(⟨#[0]⟩:ByteArray)=bs (a0K (j+1)) by rw[show(⟨#[0]⟩:ByteArray)=bs [0]from rfl,←h0B,show a0K j++ [0]=a0K (j+1) by simp[a0K,List.replicate_succ']]];refine go 8 ?_;exact rd idh (⟨j+1,hjl⟩)
 ·obtain rfl:j=64*n:=by have:=of_decide_eq_false hb8;omega
  refine go 8 ?_;exact rG
abbrev lfC (x:Lf):List Value:= [.int .i64 x.1,b0B x.2]
abbrev a1D (H:b0A) (mv:Value) (m:List Lf):Prop:=i0E H 259 2 mv m.length (m.flatMap lfC)
theorem a2Y {at_:Int} : ∀ {m:List Lf} {i:Nat} (hi:i<m.length) (_: ∀j (h:j<i),m[j].1≠at_),m[i].1=at_→f0M at_ m=m[i].2
 | (a,d)::r,0,hi,_,h=>by unfold f0M;rw[if_pos (show a=at_ from h)];rfl
 | (a,d)::r,i+1,hi,hb,h=>by
  unfold f0M;rw[if_neg (show ¬a=at_ from hb 0 (by omega))];exact a2Y (m:=r) (i:=i) (by simpa using hi) (fun j hj=>hb (j+1) (by omega)) h
theorem a2Z {at_:Int} : ∀ {m:List Lf} (_: ∀j (h:j<m.length),m[j].1≠at_),f0M at_ m=a0K 256
 | [],_=>rfl
 | (a,d)::r,hb=>by
  unfold f0M;rw[if_neg (show ¬a=at_ from hb 0 (by simp))];exact a2Z (m:=r) (fun j hj=>hb (j+1) (by simpa using hj))
theorem g1V (H:b0A) (mv:Value) (m:List Lf) (at_:Int) (hm:a1D H mv m) (hml:m.length≤1000000):a0F prog 145 #[mv,.int .i64 at_] [b0Z H] (a0T (b0B (f0M at_ m)) [b0Z H]):=by
 obtain⟨p,cap,rfl,hcap⟩:=d0Q hm;refine en func145 ntmps145 fun R w0=> ?_;refine go 14 ?_;refine a0V (X:= {i:Nat // i≤m.length∧ ∀j (h:j<m.length),j<i→m[j].1≠at_}) (fun y=> [(1,.int .i64 at_),(9,.slice p m.length cap),(10,.int .i64 m.length),(11,.int .i64 y.1)]) (fun y=> [b0Z H,R]) (fun y=>m.length-y.1) ⟨0,Nat.zero_le _,fun j _ hj=>absurd hj (Nat.not_lt_zero _)⟩ gSu gSp ?_;rintro⟨i,hi,hz⟩ m0 hm0
 try simp only at hm0
 try dsimp only
 skip;refine go 6 ?_;refine a0P rfl (fun hb12=> ?_) (fun hb12=> ?_)
 ·have hil:i<m.length:=by have:=of_decide_eq_true hb12;omega
  obtain⟨b,o,cap',cur,hv,hc,hmem,hcut,hlen⟩:=g0G hm (by omega);cases hv
  have hcu:(cur.drop (o+i*2)).take 2=lfC m[i]:=(h0R hcut hil).trans (q0E (f:=lfC) (size:=2) (fun _=>rfl) m hil);refine go 7 ?_;refine a0D (e0U (vs:=lfC m[i]) Ag.o rfl gFd hmem hcu rfl (by decide)) ?_;refine al fun b6=> ?_;refine go 11 ?_;refine a0P rfl (fun hb18=> ?_) (fun hb18=> ?_)
  ·have he:m[i].1=at_:=by simpa using hb18
   refine go 7 ?_;exact rG (hu:=(by rw[a2Y hil (fun j hj=>hz j (by omega) hj) he]))
  ·have he: ¬m[i].1=at_:=by simpa using hb18
   refine go 6 ?_;exact rd idh (⟨i+1,hil,fun j hjl hj=>if h:j=i then by subst h;exact he else hz j hjl (by omega)⟩)
 ·obtain rfl:i=m.length:=by have:=of_decide_eq_false hb12;omega
  rw[a2Z (fun j hj=>hz j hj hj)];refine go 14 ?_;refine a0V (X:= {j:Nat // j≤256}) (fun y=> [(7,b0B (a0K y.1)),(8,.int .i64 y.1)]) (fun y=> [b0Z H,R]) (fun y=>256-y.1) ⟨0,Nat.zero_le _⟩ gSu gSp ?_;rintro⟨j,hj⟩ m2 hm2
  try simp only at hm2
  try dsimp only
  skip;refine go 7 ?_;refine a0P rfl (fun hb23=> ?_) (fun hb23=> ?_)
  ·have hjl:j<256:=by have:=of_decide_eq_true hb23;omega
   refine go 6 ?_;refine a0D (g0Y rfl rfl (by rw[b0F,show(⟨#[0]⟩:ByteArray).size=1 from rfl];simp[a0K];omega)) ?_;rw[show bs (a0K j)++(⟨#[0]⟩:ByteArray)=bs (a0K (j+1)) by rw[show(⟨#[0]⟩:ByteArray)=bs [0]from rfl,←h0B,show a0K j++ [0]=a0K (j+1) by simp[a0K,List.replicate_succ']]];refine go 8 ?_;exact rd idh (⟨j+1,hjl⟩)
  ·obtain rfl:j=256:=by have:=of_decide_eq_false hb23;omega
   refine go 8 ?_;exact rG
end Go.Proofs.Q

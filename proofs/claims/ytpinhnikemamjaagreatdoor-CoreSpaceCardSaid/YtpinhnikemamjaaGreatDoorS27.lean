/- Part of the proof; no statement of its own. -/
import Derived.Test.YtpinhnikemamjaaGreatDoorS18
import Derived.Test.YtpinhnikemamjaaGreatDoorS24
import Derived.Test.YtpinhnikemamjaaGreatDoorS26
import Derived.Test.YtpinhnikemamjaaGreatDoorS23
import Derived.Test.YtpinhnikemamjaaGreatDoorS10
set_option linter.all false
set_option maxRecDepth 4000
set_option maxHeartbeats 4000000
attribute [local irreducible] Go.Sl.a0P Go.Sl.OW Go.Sl.CW Go.Sl.OS Go.Sl.OM Go.Sl.OMf Go.Sl.KM
namespace Go.Proofs.Q
open Go.Sl Go.Sb Tryz
theorem v2U (x:Ent) (i:Nat):PB (p0K x i):=b0L (o1W _ _ _) c2N
theorem c2V (x:Ent) (i:Nat) (d:B):PB (r0Y x i d):=b0L (o1U _) fun _=>b0L (o1X _ _ _) fun _=>c0V _
theorem m1Q {x:Hd} {s:St} (hd:l0N s.d): ∀ {n:Nat} {t:St} {b:B},g0A x n s=(.ok b,t)→b.length=64*n
 |0,t,b,h=>by cases h;rfl
 |n+1,t,b,h=>by
  unfold g0A at h;simp only at h;have hro:=f1T x n;generalize x.at_.getD (4- (n+1)) 0=i at h;generalize x.sums.getD (4- (n+1)) 0=c at h;have key: ∀ {m:M B},RO m→(∀ {t b},m s=(.ok b,t)→b.length=64)→a0B m (fun s=>a0B (g0A x n) fun r=>ret (s++r)) s=(.ok b,t)→b.length=64*(n+1):=by
   intro m hm h64 h;cases hg:m s with
   |mk o u=>
    have hu:u=s:=by have:=hm s;rw[hg]at this;exact this
    subst hu;cases o with
    |ok v=>
     rw[a0A hg]at h;cases hg2:g0A x n u with
     |mk o2 u2=>
      cases o2 with
      |ok r=>
       rw[a0A hg2]at h;cases h
       rw[List.length_append,h64 hg,m1Q hd hg2];omega
      |err e=>rw[a0F hg2]at h;cases h
      |big=>unfold a0B at h;rw[hg2]at h;cases h
    |err e=>rw[a0F hg]at h;cases h
    |big=>unfold a0B at h;rw[hg]at h;cases h
  refine key (h1H (q0G (h1I _) fun _=>h1H (fun _=>rfl) (u0A _)) (u0A _)) ?_ h;intro t b h;split at h
  ·cases hg:g0X i s with
   |mk o u=>
    cases o with
    |ok v=>
     rw[a0A hg]at h;split at h
     ·cases h
     ·cases h;exact w1D hd (x0M hg).2
    |err e=>rw[a0F hg]at h;cases h
    |big=>unfold a0B at h;rw[hg]at h;cases h
  ·cases h;rfl
theorem q2W {s t:St} {a:Int} {b:B} (hd:l0N s.d) (h:l0D a s=(.ok b,t)):b.length=256:=by
 unfold l0D at h;split at h
 ·cases h;simp[a0L]
 ·cases hg:e0U a s with
  |mk o u=>
   cases o with
   |ok x=>
    rw[a0A hg]at h;have hu:=(p0E hg).1;subst hu;exact m1Q hd h
   |err e=>rw[a0F hg]at h;cases h
   |big=>unfold a0B at h;rw[hg]at h;cases h
theorem w1T {x:Ent} {i:Nat} {s t:St} {b:B} (hd:l0N s.d) (h:p0K x i s=(.ok b,t)):t=s∧b.length=256:=by
 have h1:=p1B x i s;rw[h]at h1;refine⟨h1,?_⟩;unfold p0K at h;cases hg:l0E 2 x.root i s with
 |mk o u=>
  cases o with
  |ok v=>
   rw[a0A hg]at h;have hu:=b1B 2 x.root i s;rw[hg]at hu;subst hu;exact q2W hd h
  |err e=>rw[a0F hg]at h;cases h
  |big=>unfold a0B at h;rw[hg]at h;cases h
theorem q2X {k:Nat} {x:Ent} {at_:Nat} {data:B} (h:data≠ []):j0S (k+1) x at_ data=a0B (p0K x (at_/4)) fun was=>
 a0B (r0Y x (at_/4) (was.take (at_%4*64)++data.take (min data.length (256-at_%4*64))++was.drop (at_%4*64+min data.length (256-at_%4*64)))) fun x=>j0S k x (at_+min data.length (256-at_%4*64)/64) (data.drop (min data.length (256-at_%4*64))):=by
 conv=>lhs;unfold j0S
 rw[if_neg h]
theorem l2Y {k:Nat} {x:Ent} {at_:Nat} :j0S k x at_ []=ret x:=by cases k<;>rfl
theorem h0U (x y:B):bs (x++y)=bs x++bs y:=by
 apply ByteArray.ext;rw[ByteArray.data_append];simp[bs]
theorem z1X (was d:B) (f n:Nat):(bs was).extract 0 ((f:Int).toNat)++(bs d).extract 0 ((n:Int).toNat)++(bs was).extract (((f:Int)+(n:Int)).toNat) (bs was).size=bs (was.take f++d.take n++was.drop (f+n)):=by
 rw[show((f:Int)+(n:Int)).toNat=f+n by omega,Int.toNat_natCast,Int.toNat_natCast,a1V,a1V,x0K,←h0U,←h0U]
set_option maxRecDepth 4000 in
theorem m1R (W:World) (hW:i0L W) (a:Ad) (s:St) (b:Nat) (x:Ent) (at_:Nat) (data:B) (hi:at_+data.length<1000000) (hbits:s.bits≤256) (hnb:(e0T x at_ data s).1≠ .big):
 a0G prog 68 #[ptr a.core,ptr b,.int .i64 at_,b0C data] (RS W a s++ [s0M b x]) (Ran fT (RSo W a (s0M b)) i0S (u0B (e0T x at_ data s))):=by
 refine ns ?_;refine en func68 ntmps68 fun R w0=> ?_;refine go 1 ?_;refine a0V (X:= {y:Nat×St×Ent×Nat×B // y.2.2.2.2.length≤y.1∧y.2.2.2.1+y.2.2.2.2.length<1000000∧y.2.1.bits=s.bits∧e0T x at_ data s=j0S y.1 y.2.2.1 y.2.2.2.1 y.2.2.2.2 y.2.1}) (fun y=> [(0,ptr a.core),(1,ptr b),(2,.int .i64 y.1.2.2.2.1),(3,b0C y.1.2.2.2.2)]) (fun y=>RS W a y.1.2.1++ [s0M b y.1.2.2.1,R]) (fun y=>y.1.1) ⟨(data.length,s,x,at_,data),Nat.le_refl _,hi,rfl,rfl⟩ gSu gSp ?_;rintro⟨⟨k,u,x',at',d⟩,hk,ha,hub,he⟩ m0 hm0
 try simp only at hm0
 try dsimp only
 simp only at hk ha hub he;refine ns ?_;refine go 5 ?_;rw[b0H];refine go 3 ?_;refine a0O rfl (fun hb14=> ?_) (fun hb14=> ?_)
 ·have hd0:0<d.length:=by have h:=hb14;simp only[decide_eq_true_eq]at h;omega
  obtain⟨j,rfl⟩: ∃j,k=j+1:=⟨k-1,by omega⟩;rw[q2X (by intro e;rw[e]at hd0;exact absurd hd0 (by decide))]at he;obtain⟨f,hf⟩: ∃f,f=at'%4*64:=⟨_,rfl⟩;have hfl:f≤192:=by omega
  obtain⟨n,hn⟩: ∃n,n=min d.length (256-f):=⟨_,rfl⟩;rw[←hf,←hn]at he;refine go 10 ?_;rw[show((at':Nat):Int)/4=((at'/4:Nat):Int) by omega,show((at':Nat):Int)%4*64=(f:Int) by omega];refine go 8 ?_;rw[b0H];refine go 3 ?_;rw[show min ((d.length:Nat):Int) (256- (f:Int))=(n:Int) by omega];refine go 4 ?_;refine n0N (p:=l0N u.d) gFd fun hdk=> ?_;refine go 6 ?_;refine a0U rfl Hb.o rfl (l2W W a u x' (at'/4) (by omega)) gSp (fun was t ho=> ?_) (fun e t ho=>by refine pn ?_;exact kx ((show u0B (e0T x at_ data s)=(.err e,(t,none)) by rw[he,a0F ho];rfl)));refine ns ?_;obtain⟨hts,hwl⟩:=w1T hdk ho;rw[hts]at ho ⊢;rw[a0A ho]at he;have hws:(bs was).size=256:=by rw[b0H,hwl]
  have hds:(bs d).size=d.length:=b0H d;refine go 4 ?_;refine tl 16 ?_;refine go 5 ?_;refine b0V (d1W Tst.o rfl rfl (by omega)) ?_;refine go 2 ?_;refine b0V (d1W Tst.o rfl rfl (by omega)) ?_;refine b0V (h0N rfl rfl (by simp only[ByteArray.size_append,ByteArray.size_extract,maxLen];omega)) ?_;refine go 4 ?_;refine b0V (d1V Tst.o rfl rfl (by omega)) ?_;refine b0V (h0N rfl rfl (by simp only[ByteArray.size_append,ByteArray.size_extract,maxLen];omega)) ?_;refine go 1 ?_;rw[z1X was d f n];refine a0U rfl Hb.o rfl (l2X W hW a u b x' (at'/4) (was.take f++d.take n++was.drop (f+n)) (by omega) (by simp only[List.length_append,List.length_take,List.length_drop];omega) (by omega) (by rw[he]at hnb;exact c0I hnb)) gSp (fun v ⟨t',ox⟩ ho=> ?_) (fun e t ho=>by refine pn ?_;(obtain⟨t1,t2⟩:=t;obtain⟨hx,hm⟩:=r0B ho;obtain rfl:t2=none:=congrArg Prod.snd hx;have hm:_=(Out.err e,t1):=hm;exact b0W (by rw[he,a0F hm];rfl) idh gSp));refine ns ?_;refine go 1 ?_;obtain⟨y,hx,hm⟩:=s0Z ho;obtain rfl:ox=some y:=congrArg Prod.snd hx;have hm:_=(Out.ok y,t'):=hm;simp only[RSo,List.cons_append,List.nil_append];rw[a0A hm]at he;have hpb:=c2V x' (at'/4) (was.take f++d.take n++was.drop (f+n)) u;rw[hm]at hpb;refine go 5 ?_;refine a0D (d1V Tst.o rfl rfl (by omega)) ?_;rw[Int.toNat_natCast,x0K];refine go 8 ?_;rw[show((at':Nat):Int)+(n:Int)/64=((at'+n/64:Nat):Int) by omega];refine go 2 ?_;exact rd idh (⟨(j,t',y,at'+n/64,d.drop n),by(show(d.drop n).length≤j);rw[List.length_drop];omega,by(show at'+n/64+(d.drop n).length<1000000);rw[List.length_drop];omega,hpb.trans hub,he⟩)
 ·have hd0:d= []:=List.eq_nil_of_length_eq_zero (by have h:=hb14;simp only[decide_eq_false_iff_not]at h;omega);subst hd0;rw[l2Y]at he;refine go 1 ?_;exact fR (s:=(u,some x')) (by rw[he];rfl)
section
theorem l2Z (X:BitVec 32):l0X X.toNat 4=Sha.be4 X:=by
 have h: ∀k:Nat,k≤24→UInt8.ofNat (X.toNat/2^k)=(⟨(X >>> k).setWidth 8⟩:UInt8):=fun k hk=>by
  apply UInt8.toNat_inj.1;rw[UInt8.toNat_ofNat'];show _=((X >>> k).setWidth 8).toNat;rw[BitVec.toNat_setWidth,BitVec.toNat_ushiftRight,Nat.shiftRight_eq_div_pow]
 have h0:X.toNat=X.toNat/2^0:=by simp
 show [UInt8.ofNat (X.toNat/256^3),UInt8.ofNat (X.toNat/256^2),UInt8.ofNat (X.toNat/256^1),UInt8.ofNat (X.toNat/256^0)]=_;rw[show(256:Nat)^3=2^24 from rfl,show(256:Nat)^2=2^16 from rfl,show(256:Nat)^1=2^8 from rfl,show(256:Nat)^0=2^0 from rfl,h 24 (by omega),h 16 (by omega),h 8 (by omega),h 0 (by omega)];unfold Sha.be4;rw[show X >>> 0=X from BitVec.ushiftRight_zero X]
theorem m2A (n:Nat):l0X n 8=Sha.be8 n:=rfl
theorem m2B (w v:List Sha.W) (i:Nat):Sha.j0U w v (i+1)=Sha.rnd (Sha.j0U w v i) (Sha.at_ Sha.e0N i) (Sha.at_ w i):=rfl
theorem c2W (n j:Nat) (hj:j≤Sha.m0Y n):((n+1+j)%64≠56)=(j<Sha.m0Y n):=by
 unfold Sha.m0Y at*
 apply propext;constructor<;>intro h<;>omega
theorem q2Y {h v:List Sha.W} {i:Nat} (hh:h.length=8) (hv:v.length=8) (hi:i<8):
 ((List.zipWith (· + ·) h v).take i++h.drop i).set i (Sha.at_ h i+Sha.at_ v i)=(List.zipWith (· + ·) h v).take (i+1)++h.drop (i+1):=by
 have hz:(List.zipWith (· + ·) h v).length=8:=by rw[List.length_zipWith,hh,hv];rfl
 have hl:((List.zipWith (· + ·) h v).take i).length=i:=by rw[List.length_take];omega
 rw[List.set_append_right _ _ (by omega),hl,Nat.sub_self,List.drop_eq_getElem_cons (by omega),List.set_cons_zero,List.take_succ,List.getElem?_eq_getElem (by omega)];simp only[List.getElem_zipWith,Option.toList_some,List.append_assoc,List.singleton_append];unfold Sha.at_;rw[List.getD_eq_getElem?_getD,List.getD_eq_getElem?_getD,List.getElem?_eq_getElem (by omega),List.getElem?_eq_getElem (by omega)];rfl
theorem y2J {h v:List Sha.W} {i:Nat} (hh:h.length=8) (hv:v.length=8) (hi:i<8):nth (((List.zipWith (· + ·) h v).take i++h.drop i).map i32) i=some (i32 (Sha.at_ h i)):=by
 have hz:(List.zipWith (· + ·) h v).length=8:=by rw[List.length_zipWith,hh,hv];rfl
 have hl:((List.zipWith (· + ·) h v).take i).length=i:=by rw[List.length_take];omega
 rw[e0F,List.getElem?_map,List.getElem?_append_right (by omega),hl,Nat.sub_self,List.getElem?_drop,Nat.add_zero,List.getElem?_eq_getElem (by omega)];unfold Sha.at_;rw[List.getD_eq_getElem?_getD,List.getElem?_eq_getElem (by omega)];rfl
theorem q2Z {v:List Sha.W} (h:v.length=8):v.map i32= [i32 (Sha.at_ v 0),i32 (Sha.at_ v 1),i32 (Sha.at_ v 2),i32 (Sha.at_ v 3),i32 (Sha.at_ v 4),i32 (Sha.at_ v 5),i32 (Sha.at_ v 6),i32 (Sha.at_ v 7)]:=by
 match v,h with
 | [a,b,c,d,e,f,g,i],_=>rfl
theorem g2O (n:Nat) (h:List Sha.W) (b:B):Sha.f0J (n+1) h b=Sha.f0J n (Sha.mix h (b.take 64)) (b.drop 64):=rfl
abbrev n64 (x:BitVec 32):Value:= .int .i64 (x.toNat:Int)
set_option maxRecDepth 8000
theorem k1E (s:B) (hs:s.length≤100000):a0G prog 188 #[b0C s] [] (a0T (b0C (Sha.sum s)) []):=by
 have hss:(bs s).size=s.length:=b0H s;obtain⟨p,hp⟩: ∃p,p=Sha.m0J s:=⟨_,rfl⟩;have hfl:Sha.m0Y s.length<64:=by unfold Sha.m0Y;omega
 have hpl:p.length=s.length+1+Sha.m0Y s.length+8:=by rw[hp];simp[Sha.m0J,Sha.be8];omega
 have hp64:p.length%64=0:=by rw[hpl];unfold Sha.m0Y;omega
 have hsl:Sha.start.length=8:=rfl;obtain⟨tot,htot⟩: ∃tot,tot=p.length/64:=⟨_,rfl⟩;have hsum:Sha.sum s=(Sha.f0J tot Sha.start p).flatMap Sha.be4:=by rw[htot,hp];rfl
 refine en func188 ntmps188 fun R w0=> ?_;refine go 7 ?_;refine bl fun b26=> ?_;refine e0X (fun w h=>b1R (n:=8) (cs:=Sha.start.map i32) rfl (by simp[maxLen]) h) ?_;refine go 6 ?_;refine a0D (h0N rfl rfl (by rw[b0H,show(⟨#[128]⟩:ByteArray).size=1 from rfl];omega)) ?_;rw[show bs s++(⟨#[128]⟩:ByteArray)=bs (s++128::a0L 0)from(h0U s [128]).symm];refine go 5 ?_;refine a0V (X:= {j:Nat // j≤Sha.m0Y s.length}) (fun y=> [(0,b0C s),(3,.slice (some ⟨b26,0,none⟩) 8 8),(4,b0C (s++128::a0L y.1))]) (fun y=> [b0I 3 1 (.slice (some ⟨b26,0,none⟩) 8 8) 8 (Sha.start.map i32),R]) (fun y=>Sha.m0Y s.length-y.1) ⟨0,Nat.zero_le _⟩ gSu gSp ?_;rintro⟨j,hj⟩ m0 hm0
 try simp only at hm0
 try dsimp only
 skip;refine go 5 ?_;rw[b0H,show(s++128::a0L j).length=s.length+1+j by simp[a0L];omega];refine go 4 ?_;refine a0O rfl (fun hb32=> ?_) (fun hb32=> ?_)
 ·have hjl:j<Sha.m0Y s.length:=by
   rw[←c2W s.length j hj];have h:=hb32;simp only[bne_iff_ne,ne_eq]at h;omega
  refine go 5 ?_;refine a0D (h0N rfl rfl (by rw[b0H,show(⟨#[0]⟩:ByteArray).size=1 from rfl];simp[a0L];omega)) ?_;rw[show bs (s++128::a0L j)++(⟨#[0]⟩:ByteArray)=bs (s++128::a0L (j+1)) by rw[show(⟨#[0]⟩:ByteArray)=bs [0]from rfl,←h0U,show s++128::a0L j++ [0]=s++128::a0L (j+1) by simp[a0L,List.replicate_succ']]];refine go 2 ?_;exact rd idh (⟨j+1,hjl⟩)
 ·obtain rfl:j=Sha.m0Y s.length:=by
   have h1: ¬(s.length+1+j)%64≠56:=by have h:=hb32;simp only[bne_eq_false_iff_eq]at h;omega
   rw[c2W s.length j hj]at h1;omega
  refine go 7 ?_;rw[hss];refine go 1 ?_;rw[show(8:Int)*((s.length:Nat):Int)=((8*s.length:Nat):Int) by omega];refine cg 0 (i1C (8*s.length) 8 (by omega) (by omega)) ?_;refine a0D (h0N rfl rfl (by rw[b0H,b0H];simp[a0L,l0X];omega)) ?_;rw[show bs (s++128::a0L (Sha.m0Y s.length))++bs (l0X (8*s.length) 8)=bs p by rw[←h0U,m2A,hp];unfold Sha.m0J a0L;simp];refine ce 5 (r1W) ?_;rintro v5 _;refine ns ?_;simp only[id];refine go 10 ?_;refine a0V (X:= {x:Nat×List Sha.W // x.1≤tot∧x.2.length=8∧Sha.f0J tot Sha.start p=Sha.f0J (tot-x.1) x.2 (p.drop (64*x.1))}) (fun y=> [(3,.slice (some ⟨b26,0,none⟩) 8 8),(4,b0C p),(5,v5),(6,.int .i64 (64*(y.1.1:Int)))]) (fun y=> [b0I 3 1 (.slice (some ⟨b26,0,none⟩) 8 8) 8 (y.1.2.map i32),b0I 3 1 v5 64 (Sha.e0N.map i32),R]) (fun y=>tot-y.1.1) ⟨(0,Sha.start),Nat.zero_le _,hsl,rfl⟩ gSu gSp ?_;rintro⟨⟨m,h⟩,hm,hhl,hmx⟩ m2 hm2
  try simp only at hm2
  try dsimp only
  simp only at hm hhl hmx;have hps:(bs p).size=p.length:=b0H p;refine go 6 ?_;rw[hps];refine go 3 ?_;refine a0O rfl (fun hb45=> ?_) (fun hb45=> ?_)
  ·have hml:m<tot:=by have:=of_decide_eq_true hb45;omega
   obtain⟨blk,hblk⟩: ∃blk,blk=(p.drop (64*m)).take 64:=⟨_,rfl⟩;have hbl:blk.length=64:=by rw[hblk,List.length_take,List.length_drop];omega
   obtain⟨ws,hws⟩: ∃ws,ws=Sha.k0U blk:=⟨_,rfl⟩;have hwl:ws.length=64:=by rw[hws];exact Sha.p1W blk
   have hrl:Sha.e0N.length=64:=rfl;refine go 10 ?_;refine a0D (g1F Tst.o rfl rfl rfl (by omega)) ?_;rw[show(bs p).extract (64*(m:Int)).toNat (64*(m:Int)+64).toNat=bs blk by rw[l1V,hblk,List.drop_take];congr 2<;>omega];refine ce 0 (z1V blk hbl) ?_;rintro v7 _;refine ns ?_;simp only[id];rw[←hws];refine go 7 ?_;refine b0V (a0X (v:=n64 (Sha.at_ h 0)) Sc.o rfl gFd (i0U h 0 (by omega))) ?_;refine go 2 ?_;refine b0V (a0X (v:=n64 (Sha.at_ h 1)) Sc.o rfl gFd (i0U h 1 (by omega))) ?_;refine go 2 ?_;refine b0V (a0X (v:=n64 (Sha.at_ h 2)) Sc.o rfl gFd (i0U h 2 (by omega))) ?_;refine go 2 ?_;refine b0V (a0X (v:=n64 (Sha.at_ h 3)) Sc.o rfl gFd (i0U h 3 (by omega))) ?_;refine go 2 ?_;refine b0V (a0X (v:=n64 (Sha.at_ h 4)) Sc.o rfl gFd (i0U h 4 (by omega))) ?_;refine go 2 ?_;refine b0V (a0X (v:=n64 (Sha.at_ h 5)) Sc.o rfl gFd (i0U h 5 (by omega))) ?_;refine go 2 ?_;refine b0V (a0X (v:=n64 (Sha.at_ h 6)) Sc.o rfl gFd (i0U h 6 (by omega))) ?_;refine go 2 ?_;refine b0V (a0X (v:=n64 (Sha.at_ h 7)) Sc.o rfl gFd (i0U h 7 (by omega))) ?_;refine go 17 ?_;refine a0V (X:= {i:Nat // i≤64}) (fun y=> [(3,.slice (some ⟨b26,0,none⟩) 8 8),(4,b0C p),(5,v5),(6,.int .i64 (64*(m:Int))),(7,v7),(8,n64 (Sha.at_ (Sha.j0U ws h y.1) 0)),(9,n64 (Sha.at_ (Sha.j0U ws h y.1) 1)),(10,n64 (Sha.at_ (Sha.j0U ws h y.1) 2)),(11,n64 (Sha.at_ (Sha.j0U ws h y.1) 3)),(12,n64 (Sha.at_ (Sha.j0U ws h y.1) 4)),(13,n64 (Sha.at_ (Sha.j0U ws h y.1) 5)),(14,n64 (Sha.at_ (Sha.j0U ws h y.1) 6)),(15,n64 (Sha.at_ (Sha.j0U ws h y.1) 7)),(16,.int .i64 y.1)]) (fun y=> [b0I 3 1 (.slice (some ⟨b26,0,none⟩) 8 8) 8 (h.map i32),b0I 3 1 v5 64 (Sha.e0N.map i32),b0I 3 1 v7 64 (ws.map i32),R]) (fun y=>64-y.1) ⟨0,Nat.zero_le _⟩ gSu gSp ?_;rintro⟨i,hi⟩ m4 hm4
   try simp only at hm4
   try dsimp only
   skip;refine go 7 ?_;refine a0O rfl (fun hb79=> ?_) (fun hb79=> ?_)
   ·have hil:i<64:=by have:=of_decide_eq_true hb79;omega
    have hst:=m2B ws h i;obtain⟨va,hva⟩: ∃x,x=Sha.at_ (Sha.j0U ws h i) 0:=⟨_,rfl⟩;obtain⟨vb,hvb⟩: ∃x,x=Sha.at_ (Sha.j0U ws h i) 1:=⟨_,rfl⟩;obtain⟨vc,hvc⟩: ∃x,x=Sha.at_ (Sha.j0U ws h i) 2:=⟨_,rfl⟩;obtain⟨vd,hvd⟩: ∃x,x=Sha.at_ (Sha.j0U ws h i) 3:=⟨_,rfl⟩;obtain⟨ve,hve⟩: ∃x,x=Sha.at_ (Sha.j0U ws h i) 4:=⟨_,rfl⟩;obtain⟨vf,hvf⟩: ∃x,x=Sha.at_ (Sha.j0U ws h i) 5:=⟨_,rfl⟩;obtain⟨vg,hvg⟩: ∃x,x=Sha.at_ (Sha.j0U ws h i) 6:=⟨_,rfl⟩;obtain⟨vz,hvz⟩: ∃x,x=Sha.at_ (Sha.j0U ws h i) 7:=⟨_,rfl⟩;obtain⟨kk,hkk⟩: ∃x,x=Sha.at_ Sha.e0N i:=⟨_,rfl⟩;obtain⟨ww,hww⟩: ∃x,x=Sha.at_ ws i:=⟨_,rfl⟩;unfold Sha.rnd at hst;rw[←hva,←hvb,←hvc,←hvd,←hve,←hvf,←hvg,←hvz,←hkk,←hww]at hst;rw[←hva,←hvb,←hvc,←hvd,←hve,←hvf,←hvg,←hvz];have l1:=(ve &&& vf).isLt;have l2:=(~~~ve &&& vg).isLt;refine go 8 ?_;refine a0D (e1F rfl rfl) ?_;refine go 1 ?_;refine a0D (x2L rfl) ?_;refine go 1 ?_;refine a0D (e1F rfl rfl) ?_;refine a0D (s1L (m:=((ve &&& vf).toNat:Int)) (n:=((~~~ve &&& vg).toNat:Int)) rfl rfl (by omega)) ?_;obtain⟨ch,hch⟩: ∃x,x=(ve &&& vf ^^^ ~~~ve &&& vg):=⟨_,rfl⟩;rw[o2J,←hch];refine go 7 ?_;refine a0D (e1F rfl rfl) ?_;refine go 2 ?_;refine a0D (e1F rfl rfl) ?_;refine a0D (e2A rfl rfl) ?_;refine go 2 ?_;refine a0D (e1F rfl rfl) ?_;refine a0D (e2A rfl rfl) ?_;obtain⟨mj,hmj⟩: ∃x,x=(va &&& vb ^^^ va &&& vc ^^^ vb &&& vc):=⟨_,rfl⟩;rw[x2M,←hmj];refine go 4 ?_;refine i0T (e:=3) (v:=v5) (show Fnd _ (b0I 3 1 v5 64 (Sha.e0N.map i32)) _ from gFd) (by omega) fun bk capk hvk hcapk=> ?_;subst hvk;refine i0T (e:=3) (v:=v7) (show Fnd _ (b0I 3 1 v7 64 (ws.map i32)) _ from gFd) (by omega) fun bw capw hvw hcapw=> ?_;subst hvw;obtain⟨s1,hs1⟩: ∃x,x=Sha.t1 ve:=⟨_,rfl⟩;have l3:=vz.isLt;have l4:=s1.isLt;have l5:=ch.isLt;have l6:=kk.isLt;have l7:=ww.isLt;obtain⟨xx,hxx⟩: ∃x,x=vz+s1+ch+kk+ww:=⟨_,rfl⟩;refine mx (.r 0 2 (.soft 3 (.soft 6 (.soft 10 (.r 12 4 (.r 17 4 (.hard 2 (.hard 4 (.soft 5 (.hard 7 (.r 8 2 (.soft 11 (.soft 16 (.soft 21 (.hard 22 (.soft 23 .done)))))))))))))))) [b0I 3 1 (.slice (some ⟨bk,0,none⟩) 64 capk) 64 (Sha.e0N.map i32),b0I 3 1 (.slice (some ⟨bw,0,none⟩) 64 capw) 64 (ws.map i32)] ?_;refine go 8 ?_;refine d0A rfl (a0X (v:=n64 kk) Sc.o rfl gFd (by rw[show 0+((i:Int)).toNat*1=i by omega,hkk];exact i0U Sha.e0N i (by omega))) ?_;refine go 3 ?_;refine d0A rfl (a0X (v:=n64 ww) Sc.o rfl gFd (by rw[show 0+((i:Int)).toNat*1=i by omega,hww];exact i0U ws i (by omega))) ?_;refine cg 1 (l0T ve 6 (by omega) (by omega)) ?_;refine cg 3 (l0T ve 11 (by omega) (by omega)) ?_;refine go 2 ?_;refine d0A rfl (v0P rfl rfl) ?_;refine cg 1 (l0T ve 25 (by omega) (by omega)) ?_;refine go 2 ?_;refine d0A rfl (show Sl.a0P _ _ _ _ (n64 s1)from hs1▸v0P rfl rfl) ?_;refine go 5 ?_;refine b0X rfl Hb.o rfl (y0Q _ xx (by omega) (by rw[hxx];simp only[BitVec.toNat_add];omega)) gSp ?_;refine ns ?_;refine go 6 ?_;obtain⟨s0,hs0⟩: ∃x,x=Sha.t0 va:=⟨_,rfl⟩;have m1:=s0.isLt;have m2:=mj.isLt;obtain⟨yy,hyy⟩: ∃x,x=s0+mj:=⟨_,rfl⟩;refine cg 2 (l0T va 2 (by omega) (by omega)) ?_;refine cg 1 (l0T va 13 (by omega) (by omega)) ?_;refine a0D (v0P rfl rfl) ?_;refine cg 1 (l0T va 22 (by omega) (by omega)) ?_;refine a0D (show Sl.a0P _ _ _ _ (n64 s0)from hs0▸v0P rfl rfl) ?_;refine go 2 ?_;refine b0X rfl Hb.o rfl (y0Q _ yy (by omega) (by rw[hyy];simp only[BitVec.toNat_add];omega)) gSp ?_;refine ns ?_;refine go 3 ?_;have q1:=vd.isLt;have q2:=xx.isLt;have q3:=yy.isLt;refine go 7 ?_;refine b0X rfl Hb.o rfl (y0Q _ (vd+xx) (by omega) (by simp only[BitVec.toNat_add];omega)) gSp ?_;refine ns ?_;refine go 6 ?_;refine b0X rfl Hb.o rfl (y0Q _ (xx+yy) (by omega) (by simp only[BitVec.toNat_add];omega)) gSp ?_;refine ns ?_;refine go 15 ?_;have hnx:Sha.j0U ws h (i+1)= [xx+yy,va,vb,vc,vd+xx,ve,vf,vg]:=by
     rw[hst,hxx,hyy,hs1,hs0,hch,hmj];simp only[List.cons.injEq,true_and,and_true];refine⟨?_,?_⟩<;>(apply BitVec.eq_of_toNat_eq;simp only[BitVec.toNat_add];omega)
    refine e1A idh (⟨i+1,hil⟩) (by first|omega| (simp only;omega)) (by rw[hnx];exact gSu) gSp
   ·obtain rfl:i=64:=by have:=of_decide_eq_false hb79;omega
    obtain⟨v,hv⟩: ∃v,v=Sha.j0U ws h 64:=⟨_,rfl⟩;have hvl:v.length=8:=by rw[hv];exact t1Q ws h hhl 64
    rw[←hv];refine go 12 ?_;refine bl fun b157=> ?_;refine e0X (fun w h=>b1R (n:=8) (cs:= [n64 (Sha.at_ v 0),n64 (Sha.at_ v 1),n64 (Sha.at_ v 2),n64 (Sha.at_ v 3),n64 (Sha.at_ v 4),n64 (Sha.at_ v 5),n64 (Sha.at_ v 6),n64 (Sha.at_ v 7)]) rfl (by simp[maxLen]) h) ?_;rw[show [n64 (Sha.at_ v 0),n64 (Sha.at_ v 1),n64 (Sha.at_ v 2),n64 (Sha.at_ v 3),n64 (Sha.at_ v 4),n64 (Sha.at_ v 5),n64 (Sha.at_ v 6),n64 (Sha.at_ v 7)]=v.map i32 from(q2Z hvl).symm];refine go 5 ?_;refine a0V (X:= {i:Nat // i≤8}) (fun y=> [(3,.slice (some ⟨b26,0,none⟩) 8 8),(4,b0C p),(5,v5),(6,.int .i64 (64*(m:Int))),(157,.slice (some ⟨b157,0,none⟩) 8 8),(158,.int .i64 8),(159,.int .i64 y.1)]) (fun y=> [b0I 3 1 (.slice (some ⟨b26,0,none⟩) 8 8) 8 (((List.zipWith (· + ·) h v).take y.1++h.drop y.1).map i32),b0I 3 1 (.slice (some ⟨b157,0,none⟩) 8 8) 8 (v.map i32),b0I 3 1 v5 64 (Sha.e0N.map i32),R]) (fun y=>8-y.1) ⟨0,Nat.zero_le _⟩ gSu gSp ?_;rintro⟨i,hi⟩ m6 hm6
    try simp only at hm6
    try dsimp only
    skip;refine go 6 ?_;refine a0O rfl (fun hb160=> ?_) (fun hb160=> ?_)
    ·have hil:i<8:=by have:=of_decide_eq_true hb160;omega
     have r1:=(Sha.at_ h i).isLt;have r2:=(Sha.at_ v i).isLt;refine go 8 ?_;refine a0D (a0X (v:=n64 (Sha.at_ v i)) Sc.o rfl (show Fnd _ (b0I 3 1 (.slice (some ⟨b157,0,none⟩) 8 8) 8 (v.map i32)) _ from gFd) (by rw[show 0+((i:Int)).toNat*1=i by omega];exact i0U v i (by omega))) ?_;refine go 10 ?_;refine a0D (a0X (v:=n64 (Sha.at_ h i)) Sc.o rfl (show Fnd _ (b0I 3 1 (.slice (some ⟨b26,0,none⟩) 8 8) 8 (((List.zipWith (· + ·) h v).take i++h.drop i).map i32)) _ from gFd) (by rw[show 0+((i:Int)).toNat*1=i by omega];exact y2J hhl hvl hil)) ?_;refine go 2 ?_;refine b0X rfl Hb.o rfl (y0Q _ (Sha.at_ h i+Sha.at_ v i) (by omega) (by simp only[BitVec.toNat_add];omega)) gSp ?_;refine ns ?_;refine go 1 ?_;refine c0H (xs':=((List.zipWith (· + ·) h v).take (i+1)++h.drop (i+1)).map i32) Sz.o rfl rfl rfl (show Fnd _ (b0I 3 1 (.slice (some ⟨b26,0,none⟩) 8 8) 8 (((List.zipWith (· + ·) h v).take i++h.drop i).map i32)) _ from gFd) (by rw[show 0+((i:Int)).toNat*1=i by omega];simp;omega) (by rw[show 0+((i:Int)).toNat*1=i by omega,←q2Y hhl hvl hil,List.map_set];rfl) ?_;refine go 6 ?_;exact rd idh (⟨i+1,hil⟩)
    ·obtain rfl:i=8:=by have:=of_decide_eq_false hb160;omega
     have hmix:(List.zipWith (· + ·) h v).take 8++h.drop 8=Sha.mix h blk:=by
      rw[List.take_of_length_le (by rw[List.length_zipWith];omega),List.drop_of_length_le (by omega),List.append_nil,hv,hws];rfl
     rw[hmix];refine go 5 ?_;rw[show 64*(m:Int)+64=64*((m+1:Nat):Int) by omega];refine go 2 ?_;exact rd idh (⟨(m+1,Sha.mix h blk),hml,by(show(Sha.mix h blk).length=8);exact b2H hhl blk,by(show _=Sha.f0J (tot- (m+1)) (Sha.mix h blk) (p.drop (64*(m+1))));rw[hmx,show tot-m=tot- (m+1)+1 by omega,g2O,←hblk,List.drop_drop];rfl⟩)
  ·obtain rfl:m=tot:=by have:=of_decide_eq_false hb45;omega
   have hfin:Sha.f0J m Sha.start p=h:=by rw[hmx,Nat.sub_self];rfl
   rw[hfin]at hsum;refine go 16 ?_;refine a0V (X:= {i:Nat // i≤8}) (fun y=> [(23,b0C ((h.take y.1).flatMap Sha.be4)),(175,.slice (some ⟨b26,0,none⟩) 8 8),(176,.int .i64 8),(177,.int .i64 y.1)]) (fun y=> [b0I 3 1 (.slice (some ⟨b26,0,none⟩) 8 8) 8 (h.map i32),R]) (fun y=>8-y.1) ⟨0,Nat.zero_le _⟩ gSu gSp ?_;rintro⟨i,hi⟩ m8 hm8
   try simp only at hm8
   try dsimp only
   skip;refine go 6 ?_;refine a0O rfl (fun hb178=> ?_) (fun hb178=> ?_)
   ·have hil:i<8:=by have:=of_decide_eq_true hb178;omega
    have r1:=(Sha.at_ h i).isLt;have hfl4:((h.take i).flatMap Sha.be4).length≤32:=by
     have: ∀l:List Sha.W,(l.flatMap Sha.be4).length=4*l.length:=fun l=>by
      induction l with
      |nil=>rfl
      |cons x l ih=>rw[List.flatMap_cons,List.length_append,ih,List.length_cons];show 4+_=_;omega
     rw[this,List.length_take];omega
    refine go 7 ?_;refine a0D (a0X (v:=n64 (Sha.at_ h i)) Sc.o rfl gFd (by rw[show 0+((i:Int)).toNat*1=i by omega];exact i0U h i (by omega))) ?_;refine cg 6 (i1C (Sha.at_ h i).toNat 4 (by omega) (by omega)) ?_;refine a0D (h0N rfl rfl (by rw[b0H,b0H,show(l0X (Sha.at_ h i).toNat 4).length=4 by simp[l0X]];omega)) ?_;rw[←h0U,l2Z,show(h.take i).flatMap Sha.be4++Sha.be4 (Sha.at_ h i)=(h.take (i+1)).flatMap Sha.be4 by rw[List.take_succ,List.getElem?_eq_getElem (by omega),List.flatMap_append];simp[Sha.at_,List.getD_eq_getElem?_getD,List.getElem?_eq_getElem (show i<h.length by omega)]];refine go 7 ?_;exact rd idh (⟨i+1,hil⟩)
   ·obtain rfl:i=8:=by have:=of_decide_eq_false hb178;omega
    rw[List.take_of_length_le (by omega),←hsum];refine go 8 ?_;exact rG
end
def hb (x k:Nat):Nat→Nat
 |0=>0
 |b+1=>2*hb x k b+(if k≤b then 0 else x/2^(7-b)%2)
theorem g2P (x k:Nat): ∀b,hb x k b<2^b
 |0=>Nat.one_pos
 |b+1=>by
  have:=g2P x k b;unfold hb;rw[Nat.pow_succ];split<;>omega
theorem v2V: ∀k,k<8→ ∀x,x<256→hb x k 8=(UInt8.ofNat x &&& UInt8.ofNat (255-255/2^k)).toNat:=by decide+kernel
theorem y2K: ∀x,x<256→hb x 8 8=x:=by decide+kernel
theorem s2P (x k:Nat) (h:8≤k): ∀b,b≤8→hb x k b=hb x 8 b
 |0,_=>rfl
 |b+1,hb8=>by
  unfold hb;rw[s2P x k h b (by omega),if_neg (by omega),if_neg (by omega)]
theorem m2C (n i:Nat) (c:UInt8):(UInt8.ofNat (hb c.toNat (n-8*i) 8))=if n<8*i+8 then c &&& UInt8.ofNat (255-255/2^(n-8*i))else c:=by
 have hc:=c.toNat_lt;apply UInt8.toNat_inj.1;rw[UInt8.toNat_ofNat',Nat.mod_eq_of_lt (g2P _ _ 8)];split
 ·rw[v2V _ (by omega) _ (by omega),UInt8.ofNat_toNat]
 ·rw[s2P _ _ (by omega) 8 (by omega),y2K _ (by omega)]
theorem m2D (n:Nat) (l:B) (i:Nat) (h:i<l.length):(c0O n l).take (i+1)=(c0O n l).take i++ [UInt8.ofNat (hb l[i].toNat (n-8*i) 8)]:=by
 have hl:(c0O n l).length=l.length:=by simp[c0O]
 rw[List.take_succ,List.getElem?_eq_getElem (by omega),m2C];simp[c0O]
theorem g2Q (l:B) (n:Nat) (hl:l.length≤10000) (hn:n≤256):a0G prog 261 #[b0C l,.int .i64 n] [] (a0T (b0C (c0O n l)) []):=by
 have hbl:(c0O n l).length=l.length:=by simp[c0O]
 have hls:(bs l).size=l.length:=b0H l;refine en func261 ntmps261 fun R w0=> ?_;refine go 7 ?_;refine bl fun b10=> ?_;refine go 5 ?_;refine b0U (fun w h=>o0K 1 h) ?_;refine go 5 ?_;refine a0V (X:= {x:Nat×Value // x.1≤l.length}) (fun y=> [(0,b0C l),(1,.int .i64 n),(5,y.1.2),(6,.int .i64 y.1.1)]) (fun y=> [b0I 5 1 y.1.2 y.1.1 (((c0O n l).take y.1.1).map a0Q),R]) (fun y=>l.length-y.1.1) ⟨(0,.slice (some ⟨b10,0,none⟩) 0 0),Nat.zero_le _⟩ gSu gSp ?_;rintro⟨⟨i,v⟩,hi⟩ m0 hm0
 try simp only at hm0
 try dsimp only
 simp only at hi;refine go 6 ?_;rw[hls];refine go 3 ?_;refine a0O rfl (fun hb14=> ?_) (fun hb14=> ?_)
 ·have hil:i<l.length:=by have:=of_decide_eq_true hb14;omega
  refine go 16 ?_;refine a0V (X:= {b:Nat // b≤8}) (fun y=> [(0,b0C l),(1,.int .i64 n),(5,v),(6,.int .i64 i),(7,.int .i64 (hb l[i].toNat (n-8*i) y.1)),(8,.int .i64 y.1)]) (fun y=> [b0I 5 1 v i (((c0O n l).take i).map a0Q),R]) (fun y=>8-y.1) ⟨0,by decide⟩ gSu gSp ?_;rintro⟨b,hb8⟩ m2 hm2
  try simp only at hm2
  try dsimp only
  skip;refine go 7 ?_;refine a0O rfl (fun hb18=> ?_) (fun hb18=> ?_)
  ·have hbl8:b<8:=by have:=of_decide_eq_true hb18;omega
   have hc:=(l[i]).toNat_lt;have hhb:=g2P l[i].toNat (n-8*i) b;have hhb2:(2:Nat)^b≤2^7:=Nat.pow_le_pow_right (by decide) (by omega);have hu:(bs l).data.toList[i]? =some l[i]:=by rw[m0D,List.getElem?_eq_getElem hil]
   have hsh:((l[i].toNat:Nat):Int)/2^((7:Int)- (b:Int)).toNat=((l[i].toNat/2^(7-b):Nat):Int):=by rw[show((7:Int)- (b:Int)).toNat=7-b by omega];norm_cast
   refine go 8 ?_;refine a0D (d1U Tst.o rfl rfl (by omega) (u:=l[i]) hu) ?_;refine go 1 ?_;rw[i1D];refine go 2 ?_;refine a0D (t0B rfl rfl (by first|decide| (simp only[IntKind.bits];omega))) ?_;rw[hsh];refine a0D (k1P rfl rfl ⟨Int.natCast_nonneg _,by decide⟩) ?_;refine go 3 ?_;refine j0D (X:=Unit) (fun _=> [(0,b0C l),(1,.int .i64 n),(5,v),(6,.int .i64 i),(7,.int .i64 (hb l[i].toNat (n-8*i) b)),(8,.int .i64 b),(9,.int .i64 ((if n-8*i≤b then 0 else l[i].toNat/2^(7-b)%2:Nat):Int))]) (fun _=> [b0I 5 1 v i (((c0O n l).take i).map a0Q),R]) ?_ ?_
   ·refine go 10 ?_;refine a0O rfl (fun hb34=> ?_) (fun hb34=> ?_)
    ·have hle:n-8*i≤b:=by have h:=hb34;simp only[decide_eq_true_eq]at h;omega
     rw[if_pos hle];refine go 3 ?_;exact me idh (())
    ·have hle: ¬n-8*i≤b:=by have h:=hb34;simp only[decide_eq_false_iff_not]at h;omega
     rw[if_neg hle];refine go 1 ?_;exact me idh (())
   rintro _;obtain⟨bt,hbt⟩: ∃bt:Nat,bt=if n-8*i≤b then 0 else l[i].toNat/2^(7-b)%2:=⟨_,rfl⟩
   have hbt2:bt≤1:=by rw[hbt];split<;>omega
   rw[←hbt];refine go 5 ?_;rw[show(2:Int)*((hb l[i].toNat (n-8*i) b:Nat):Int)+(bt:Int)=((hb l[i].toNat (n-8*i) (b+1):Nat):Int) by rw[hbt];show _=((2*hb l[i].toNat (n-8*i) b+_:Nat):Int);omega];refine go 8 ?_;exact rd idh (⟨b+1,hbl8⟩)
  ·obtain rfl:b=8:=by have:=of_decide_eq_false hb18;omega
   obtain⟨u,hu⟩: ∃u,u=UInt8.ofNat (hb l[i].toNat (n-8*i) 8):=⟨_,rfl⟩;have hwr:IntKind.u8.wrap ((hb l[i].toNat (n-8*i) 8:Nat):Int)=(u.toNat:Int):=by rw[hu,IntKind.wrap_u8,UInt8.toNat_ofNat'];omega
   refine go 6 ?_;rw[hwr];refine bl fun b42=> ?_;refine(d0E Tsl.o Ttb.o Zr.o rfl rfl rfl gFd (f0I Tsl.o (by simp;rfl) (by simp) (by simp[Value.oneCell'])) (by simp only[maxLen];omega) (by omega) (fun v43 hv43=> ?_));refine go 2 ?_;rw[show((c0O n l).take i).map a0Q++ [Value.int .u8 (u.toNat:Int)]=((c0O n l).take (i+1)).map a0Q by rw[m2D n l i hil,←hu];simp[a0Q]];refine go 6 ?_;exact rd idh (⟨(i+1,v43),hil⟩)
 ·obtain rfl:i=l.length:=by have:=of_decide_eq_false hb14;omega
  rw[List.take_of_length_le (by omega)];refine go 5 ?_;refine a0D (y0V Tsl.o Tst.o Tby.o rfl gFd) ?_;refine go 3 ?_;exact rG
theorem w1U (l:B) (i:Nat) (h:i<l.length):a0R (l.take (i+1))=(a0R (l.take i)&&l[i] == 0):=by
 rw[List.take_succ,List.getElem?_eq_getElem h];unfold a0R;rw[List.all_append];simp
theorem w0U (l:B) (hl:l.length≤1000000):a0G prog 173 #[b0C l] [] (a0T (.bool (a0R l)) []):=by
 have hls:(bs l).size=l.length:=b0H l;refine en func173 ntmps173 fun R w0=> ?_;refine go 12 ?_;refine a0V (X:= {i:Nat // i≤l.length∧a0R (l.take i)=true}) (fun y=> [(0,b0C l),(3,.int .i64 y.1)]) (fun y=> [R]) (fun y=>l.length-y.1) ⟨0,Nat.zero_le _,rfl⟩ gSu gSp ?_;rintro⟨i,hi,hz⟩ m0 hm0
 try simp only at hm0
 try dsimp only
 skip;refine go 6 ?_;rw[hls];refine go 3 ?_;refine a0O rfl (fun hb7=> ?_) (fun hb7=> ?_)
 ·have hil:i<l.length:=by have:=of_decide_eq_true hb7;omega
  have hu:(bs l).data.toList[i]? =some l[i]:=by rw[m0D,List.getElem?_eq_getElem hil]
  have hst:=w1U l i hil;refine go 8 ?_;refine a0D (d1U Tst.o rfl rfl (by omega) (u:=l[i]) hu) ?_;refine go 3 ?_;refine a0O rfl (fun hb13=> ?_) (fun hb13=> ?_)
  ·have hne: ¬l[i]=0:=by intro h;rw[h]at hb13;exact absurd hb13 (by decide)
   have hf:a0R l=false:=by
    cases ha:a0R l with
    |false=>rfl
    |true=>
     unfold a0R at ha;rw[List.all_eq_true]at ha;exact absurd (by simpa using ha l[i] (List.getElem_mem hil)) hne
   refine go 5 ?_;exact rG (hu:=(by rw[hf]))
  ·have heq:l[i]=0:=UInt8.toNat_inj.1 (by have h:=hb13;simp only[bne_eq_false_iff_eq]at h;have e:(0:UInt8).toNat=0:=rfl;omega);refine go 7 ?_;exact rd idh (⟨i+1,hil,by rw[hst,hz,heq];rfl⟩)
 ·obtain rfl:i=l.length:=by have:=of_decide_eq_false hb7;omega
  rw[List.take_of_length_le (by omega)]at hz;refine go 7 ?_;exact rG (hu:=(by rw[hz]))
abbrev z2X (n:Int):Value:= .agg #[.slice none 0 0,.int .i64 n]
theorem m1S (l:B) (n:Nat) (hl:l.length≤100000) (hn:n≤256):a0G prog 208 #[z2X n,b0C l] [] (a0T (b0C (key n (Sha.sum l))) []):=by
 refine en func208 ntmps208 fun R w0=> ?_;refine go 2 ?_;refine bx fun b2=> ?_;refine go 4 ?_;refine mx (.soft 0 (.r 2 2 (.hard 1 (.hard 4 (.soft 5 .done))))) [pts b2 (.cells #[.slice none 0 0,.int .i64 n] 277 (0,0))] ?_;refine cg 4 (k1E l hl) ?_;refine cg 3 (g2Q (Sha.sum l) n (by rw[p0Z];omega) hn) ?_;refine go 5 ?_;exact rG
theorem z1Y (n:Nat) (hn:n≤10000):a0G prog 171 #[.int .i64 n] [] (a0T (b0C (a0L (64*n))) []):=by
 refine en func171 ntmps171 fun R w0=> ?_;refine go 17 ?_;refine a0V (X:= {j:Nat // j≤64*n}) (fun y=> [(0,.int .i64 n),(3,b0C (a0L y.1)),(4,.int .i64 y.1)]) (fun y=> [R]) (fun y=>64*n-y.1) ⟨0,Nat.zero_le _⟩ gSu gSp ?_;rintro⟨j,hj⟩ m0 hm0
 try simp only at hm0
 try dsimp only
 skip;refine go 9 ?_;refine a0O rfl (fun hb8=> ?_) (fun hb8=> ?_)
 ·have hjl:j<64*n:=by have:=of_decide_eq_true hb8;omega
  refine go 6 ?_;refine a0D (h0N rfl rfl (by rw[b0H,show(⟨#[0]⟩:ByteArray).size=1 from rfl];simp[a0L];omega)) ?_;rw[show bs (a0L j)++(⟨#[0]⟩:ByteArray)=bs (a0L (j+1)) by rw[show(⟨#[0]⟩:ByteArray)=bs [0]from rfl,←h0U,show a0L j++ [0]=a0L (j+1) by simp[a0L,List.replicate_succ']]];refine go 8 ?_;exact rd idh (⟨j+1,hjl⟩)
 ·obtain rfl:j=64*n:=by have:=of_decide_eq_false hb8;omega
  refine go 8 ?_;exact rG
abbrev lfC (x:Lf):List Value:= [.int .i64 x.1,b0C x.2]
abbrev b1C (H:b0B) (mv:Value) (m:List Lf):Prop:=i0V H 259 2 mv m.length (m.flatMap lfC)
theorem c2X {at_:Int} : ∀ {m:List Lf} {i:Nat} (hi:i<m.length) (_: ∀j (h:j<i),m[j].1≠at_),m[i].1=at_→f0Y at_ m=m[i].2
 | (a,d)::r,0,hi,_,h=>by unfold f0Y;rw[if_pos (show a=at_ from h)];rfl
 | (a,d)::r,i+1,hi,hb,h=>by
  unfold f0Y;rw[if_neg (show ¬a=at_ from hb 0 (by omega))];exact c2X (m:=r) (i:=i) (by simpa using hi) (fun j hj=>hb (j+1) (by omega)) h
theorem c2Y {at_:Int} : ∀ {m:List Lf} (_: ∀j (h:j<m.length),m[j].1≠at_),f0Y at_ m=a0L 256
 | [],_=>rfl
 | (a,d)::r,hb=>by
  unfold f0Y;rw[if_neg (show ¬a=at_ from hb 0 (by simp))];exact c2Y (m:=r) (fun j hj=>hb (j+1) (by simpa using hj))
theorem i1E (H:b0B) (mv:Value) (m:List Lf) (at_:Int) (hm:b1C H mv m) (hml:m.length≤1000000):a0G prog 145 #[mv,.int .i64 at_] [c0B H] (a0T (b0C (f0Y at_ m)) [c0B H]):=by
 obtain⟨p,cap,rfl,hcap⟩:=d0W hm;refine en func145 ntmps145 fun R w0=> ?_;refine go 14 ?_;refine a0V (X:= {i:Nat // i≤m.length∧ ∀j (h:j<m.length),j<i→m[j].1≠at_}) (fun y=> [(1,.int .i64 at_),(9,.slice p m.length cap),(10,.int .i64 m.length),(11,.int .i64 y.1)]) (fun y=> [c0B H,R]) (fun y=>m.length-y.1) ⟨0,Nat.zero_le _,fun j _ hj=>absurd hj (Nat.not_lt_zero _)⟩ gSu gSp ?_;rintro⟨i,hi,hz⟩ m0 hm0
 try simp only at hm0
 try dsimp only
 skip;refine go 6 ?_;refine a0O rfl (fun hb12=> ?_) (fun hb12=> ?_)
 ·have hil:i<m.length:=by have:=of_decide_eq_true hb12;omega
  obtain⟨b,o,cap',cur,hv,hc,hmem,hcut,hlen⟩:=g0V hm (by omega);cases hv
  have hcu:(cur.drop (o+i*2)).take 2=lfC m[i]:=(i0I hcut hil).trans (p0J (f:=lfC) (size:=2) (fun _=>rfl) m hil);refine go 7 ?_;refine a0D (f0A (vs:=lfC m[i]) Ag.o rfl gFd hmem hcu rfl (by decide)) ?_;refine al fun b6=> ?_;refine go 11 ?_;refine a0O rfl (fun hb18=> ?_) (fun hb18=> ?_)
  ·have he:m[i].1=at_:=by simpa using hb18
   refine go 7 ?_;exact rG (hu:=(by rw[c2X hil (fun j hj=>hz j (by omega) hj) he]))
  ·have he: ¬m[i].1=at_:=by simpa using hb18
   refine go 6 ?_;exact rd idh (⟨i+1,hil,fun j hjl hj=>if h:j=i then by subst h;exact he else hz j hjl (by omega)⟩)
 ·obtain rfl:i=m.length:=by have:=of_decide_eq_false hb12;omega
  rw[c2Y (fun j hj=>hz j hj hj)];refine go 14 ?_;refine a0V (X:= {j:Nat // j≤256}) (fun y=> [(7,b0C (a0L y.1)),(8,.int .i64 y.1)]) (fun y=> [c0B H,R]) (fun y=>256-y.1) ⟨0,Nat.zero_le _⟩ gSu gSp ?_;rintro⟨j,hj⟩ m2 hm2
  try simp only at hm2
  try dsimp only
  skip;refine go 7 ?_;refine a0O rfl (fun hb23=> ?_) (fun hb23=> ?_)
  ·have hjl:j<256:=by have:=of_decide_eq_true hb23;omega
   refine go 6 ?_;refine a0D (h0N rfl rfl (by rw[b0H,show(⟨#[0]⟩:ByteArray).size=1 from rfl];simp[a0L];omega)) ?_;rw[show bs (a0L j)++(⟨#[0]⟩:ByteArray)=bs (a0L (j+1)) by rw[show(⟨#[0]⟩:ByteArray)=bs [0]from rfl,←h0U,show a0L j++ [0]=a0L (j+1) by simp[a0L,List.replicate_succ']]];refine go 8 ?_;exact rd idh (⟨j+1,hjl⟩)
  ·obtain rfl:j=256:=by have:=of_decide_eq_false hb23;omega
   refine go 8 ?_;exact rG
theorem w1V (at_:Int) (d:B) (done:Bool):p0L at_ d done []=if done then []else [(at_,d)]:=rfl
theorem r1F (at_:Int) (d:B) (done:Bool) (x:Lf) (r:List Lf):p0L at_ d done (x::r)=(if done=false∧at_<x.1 then [(at_,d)]else [])++(if x.1=at_ then []else [x])++p0L at_ d (done || decide (at_<x.1)) r:=by cases x;rfl
theorem w1W (at_:Int) (d:B): ∀(m:List Lf) (done:Bool),(p0L at_ d done m).length≤m.length*2+1
 | [],done=>by rw[w1V];split<;>simp
 |x::r,done=>by
  rw[r1F];have:=w1W at_ d r (done || decide (at_<x.1));simp only[List.length_append,List.length_cons];have h1:(if done=false∧at_<x.1 then [(at_,d)]else []).length≤1:=by split<;>simp
  have h2:(if x.1=at_ then []else [x]).length≤1:=by split<;>simp
  omega
abbrev u0C (v:Value) (out:List Lf):a0E:=b0I 259 2 v out.length (out.flatMap lfC)
theorem z1Z (H:b0B) (mv:Value) (m:List Lf) (at_:Int) (d:B) (hm:b1C H mv m) (hml:m.length≤100000) (hd:d.length≤100000):a0G prog 175 #[mv,.int .i64 at_,b0C d] [c0B H] (b0P (fun _:Value=>True) id (fun v=> [u0C v (k0L m at_ d),c0B H])):=by
 obtain⟨p,cap,rfl,hcap⟩:=d0W hm;have hlen:=w1W at_ d m (a0R d);refine en func175 ntmps175 fun R w0=> ?_;refine go 7 ?_;refine bl fun b11=> ?_;refine go 4 ?_;refine b0U (fun w h=>o0K 2 h) ?_;refine cg 2 (w0U d (by omega)) ?_;refine go 12 ?_;refine a0V (X:= {x:Nat×Bool×List Lf×Value // x.1≤m.length∧k0L m at_ d=x.2.2.1++p0L at_ d x.2.1 (m.drop x.1)}) (fun y=> [(1,.int .i64 at_),(2,b0C d),(7,y.1.2.2.2),(8,.bool y.1.2.1),(14,.slice p m.length cap),(15,.int .i64 m.length),(16,.int .i64 y.1.1)]) (fun y=> [u0C y.1.2.2.2 y.1.2.2.1,c0B H,R]) (fun y=>m.length-y.1.1) ⟨(0,a0R d,[],.slice (some ⟨b11,0,none⟩) 0 0),Nat.zero_le _,rfl⟩ gSu gSp ?_;rintro⟨⟨i,dn,out,v⟩,hi,he⟩ m0 hm0
 try simp only at hm0
 try dsimp only
 simp only at hi he;have hol:out.length≤m.length*2+1:=by
  have h1:=congrArg List.length he;have h2:(k0L m at_ d).length≤m.length*2+1:=hlen;rw[List.length_append]at h1;omega
 refine go 6 ?_;refine a0O rfl (fun hb17=> ?_) (fun hb17=> ?_)
 ·have hil:i<m.length:=by have:=of_decide_eq_true hb17;omega
  obtain⟨b,o,cap',cur,hv,hc,hmem,hcut,hlen2⟩:=g0V hm (by omega);cases hv
  have hcu:(cur.drop (o+i*2)).take 2=lfC m[i]:=(i0I hcut hil).trans (p0J (f:=lfC) (size:=2) (fun _=>rfl) m hil);rw[List.drop_eq_getElem_cons hil,r1F]at he;refine go 7 ?_;refine a0D (f0A (vs:=lfC m[i]) Ag.o rfl gFd hmem hcu rfl (by decide)) ?_;refine al fun b10=> ?_;refine go 3 ?_;refine j0D (X:= {x:Bool×List Lf×Value // k0L m at_ d=x.2.1++((if m[i].1=at_ then []else [m[i]])++p0L at_ d x.1 (m.drop (i+1)))∧x.2.1.length≤m.length*2+2}) (fun y=> [(1,.int .i64 at_),(2,b0C d),(7,y.1.2.2),(8,.bool y.1.1),(10,.pointer (some ⟨b10,0,none⟩)),(14,.slice (some ⟨b,o,none⟩) m.length cap),(15,.int .i64 m.length),(16,.int .i64 i)]) (fun y=> [u0C y.1.2.2 y.1.2.1,c0B H,pts b10 (.cells (lfC m[i]).toArray 259 (0,0)),R]) ?_ ?_
  ·refine go 1 ?_;cases hdn:dn
   ·refine go 11 ?_;refine a0O rfl (fun hb27=> ?_) (fun hb27=> ?_)
    ·have hgt:at_<m[i].1:=by simpa using hb27
     rw[hdn,if_pos ⟨rfl,hgt⟩,Bool.false_or,decide_eq_true hgt]at he;refine go 6 ?_;refine bl fun b32=> ?_;refine(d0E Tsl.o Ttb.o Zr.o rfl rfl rfl gFd (f0I Tsl.o (by simp;rfl) (by simp) (by simp[Value.oneCell'])) (by simp only[maxLen];omega) (by omega) (fun v33 hv33=> ?_));refine go 2 ?_;rw[show out.flatMap lfC++ [Value.int .i64 at_,b0C d]=(out++ [(at_,d)]).flatMap lfC by simp,show out.length+1=(out++ [(at_,d)]).length by simp];refine go 4 ?_;exact me idh (⟨(true,out++ [(at_,d)],v33),by(show k0L m at_ d=(out++ [(at_,d)])++_);rw[he];simp only[List.append_assoc],by(show(out++ [(at_,d)]).length≤_);rw[List.length_append,List.length_singleton];omega⟩)
    ·have hgt: ¬at_<m[i].1:=by simpa using hb27
     rw[hdn,if_neg (fun h=>hgt h.2),Bool.false_or,decide_eq_false hgt]at he;refine go 1 ?_;exact me idh (⟨(false,out,v),by(show k0L m at_ d=out++_);rw[he];simp only[List.nil_append],by(show out.length≤_);omega⟩)
   ·refine go 13 ?_;exact me idh (⟨(true,out,v),by(show k0L m at_ d=out++_);rw[he,hdn,if_neg (fun h=>by cases h.1),Bool.true_or];simp only[List.nil_append],by(show out.length≤_);omega⟩)
  rintro⟨⟨dn',out',v'⟩,he',hol'⟩;dsimp only at he' hol' ⊢;refine go 8 ?_;refine a0O rfl (fun hb37=> ?_) (fun hb37=> ?_)
  ·have hne: ¬m[i].1=at_:=by simpa using hb37
   rw[if_neg hne]at he';refine go 2 ?_;refine a0D (a0K (v:= #[.int .i64 m[i].1,b0C m[i].2]) Ag.o rfl (by simp) (by rfl)) ?_;refine bl fun b40=> ?_;refine(d0E Tsl.o Ttb.o Zr.o rfl rfl rfl gFd (f0I Tsl.o (by simp;rfl) (by simp) (by simp[Value.oneCell'])) (by simp only[maxLen];omega) (by omega) (fun v41 hv41=> ?_));refine go 2 ?_;rw[show out'.flatMap lfC++ [Value.int .i64 m[i].1,b0C m[i].2]=(out'++ [m[i]]).flatMap lfC by simp,show out'.length+1=(out'++ [m[i]]).length by simp];refine go 5 ?_;exact rd idh (⟨(i+1,dn',out'++ [m[i]],v41),hil,by(show k0L m at_ d=(out'++ [m[i]])++_);rw[he'];simp only[List.append_assoc]⟩)
  ·have hne:m[i].1=at_:=by simpa using hb37
   rw[if_pos hne]at he';refine go 6 ?_;exact rd idh (⟨(i+1,dn',out',v'),hil,by(show k0L m at_ d=out'++_);rw[he'];simp only[List.nil_append]⟩)
 ·obtain rfl:i=m.length:=by have:=of_decide_eq_false hb17;omega
  rw[List.drop_length,w1V]at he;refine go 9 ?_;refine a0O rfl (fun hb44=> ?_) (fun hb44=> ?_)
  ·have hdn:dn=false:=by simpa using hb44
   rw[hdn,if_neg (by simp)]at he;refine go 5 ?_;refine bl fun b49=> ?_;refine(d0E Tsl.o Ttb.o Zr.o rfl rfl rfl gFd (f0I Tsl.o (by simp;rfl) (by simp) (by simp[Value.oneCell'])) (by simp only[maxLen];omega) (by omega) (fun v50 hv50=> ?_));refine go 2 ?_;rw[show out.flatMap lfC++ [Value.int .i64 at_,b0C d]=(out++ [(at_,d)]).flatMap lfC by simp,show out.length+1=(out++ [(at_,d)]).length by simp,←he];refine go 7 ?_;exact rE idh v50 trivial
  ·have hdn:dn=true:=by simpa using hb44
   rw[hdn,if_pos rfl,List.append_nil]at he;rw[←he];refine go 8 ?_;exact rE idh v trivial
theorem r1X (H:b0B) (mv:Value) (m:List Lf) (f u:Int) (hm:b1C H mv m) (hml:m.length≤100000):a0G prog 172 #[mv,.int .i64 f,.int .i64 u] [c0B H] (b0P (fun _:Value=>True) id (fun v=> [u0C v (h0G m f u),c0B H])):=by
 obtain⟨p,cap,rfl,hcap⟩:=d0W hm;refine en func172 ntmps172 fun R w0=> ?_;refine go 7 ?_;refine bl fun b10=> ?_;refine go 5 ?_;refine b0U (fun w h=>o0K 2 h) ?_;refine go 7 ?_;refine a0V (X:= {x:Nat×List Lf×Value // x.1≤m.length∧x.2.1=h0G (m.take x.1) f u}) (fun y=> [(1,.int .i64 f),(2,.int .i64 u),(7,y.1.2.2),(11,.slice p m.length cap),(12,.int .i64 m.length),(13,.int .i64 y.1.1)]) (fun y=> [u0C y.1.2.2 y.1.2.1,c0B H,R]) (fun y=>m.length-y.1.1) ⟨(0,[],.slice (some ⟨b10,0,none⟩) 0 0),Nat.zero_le _,rfl⟩ gSu gSp ?_;rintro⟨⟨i,out,v⟩,hi,he⟩ m0 hm0
 try simp only at hm0
 try dsimp only
 simp only at hi he;have hol:out.length≤m.length:=by rw[he];exact Nat.le_trans (List.length_filter_le _ _) (by rw[List.length_take];omega)
 refine go 6 ?_;refine a0O rfl (fun hb14=> ?_) (fun hb14=> ?_)
 ·have hil:i<m.length:=by have:=of_decide_eq_true hb14;omega
  obtain⟨b,o,cap',cur,hv,hc,hmem,hcut,hlen2⟩:=g0V hm (by omega);cases hv
  have hcu:(cur.drop (o+i*2)).take 2=lfC m[i]:=(i0I hcut hil).trans (p0J (f:=lfC) (size:=2) (fun _=>rfl) m hil);have hnx:h0G (m.take (i+1)) f u=out++(if m[i].1<f∨u≤m[i].1 then [m[i]]else []):=by
   rw[List.take_succ,List.getElem?_eq_getElem hil,he];unfold h0G;rw[List.filter_append];congr 1;simp only[Option.toList_some,List.filter_cons,List.filter_nil,decide_eq_true_eq]
  refine go 7 ?_;refine a0D (f0A (vs:=lfC m[i]) Ag.o rfl gFd hmem hcu rfl (by decide)) ?_;refine al fun b9=> ?_;refine go 4 ?_;by_cases hlt:m[i].1<f
  ·refine go 16 ?_;refine a0D (a0K (v:= #[.int .i64 m[i].1,b0C m[i].2]) Ag.o rfl (by simp) (by rfl)) ?_;refine bl fun b29=> ?_;refine(d0E Tsl.o Ttb.o Zr.o rfl rfl rfl gFd (f0I Tsl.o (by simp;rfl) (by simp) (by simp[Value.oneCell'])) (by simp only[maxLen];omega) (by omega) (fun v30 hv30=> ?_));refine go 2 ?_;rw[show out.flatMap lfC++ [Value.int .i64 m[i].1,b0C m[i].2]=(out++ [m[i]]).flatMap lfC by simp,show out.length+1=(out++ [m[i]]).length by simp];refine go 5 ?_;exact rd idh (⟨(i+1,out++ [m[i]],v30),hil,by rw[hnx,if_pos (.inl hlt)]⟩)
  ·refine go 13 ?_;refine a0O rfl (fun hb26=> ?_) (fun hb26=> ?_)
   ·have hge:u≤m[i].1:=by simpa using hb26
    refine go 2 ?_;refine a0D (a0K (v:= #[.int .i64 m[i].1,b0C m[i].2]) Ag.o rfl (by simp) (by rfl)) ?_;refine bl fun b29=> ?_;refine(d0E Tsl.o Ttb.o Zr.o rfl rfl rfl gFd (f0I Tsl.o (by simp;rfl) (by simp) (by simp[Value.oneCell'])) (by simp only[maxLen];omega) (by omega) (fun v30 hv30=> ?_));refine go 2 ?_;rw[show out.flatMap lfC++ [Value.int .i64 m[i].1,b0C m[i].2]=(out++ [m[i]]).flatMap lfC by simp,show out.length+1=(out++ [m[i]]).length by simp];refine go 5 ?_;exact rd idh (⟨(i+1,out++ [m[i]],v30),hil,by rw[hnx,if_pos (.inr hge)]⟩)
   ·have hge: ¬u≤m[i].1:=by simpa using hb26
    refine go 6 ?_;exact rd idh (⟨(i+1,out,v),hil,by rw[hnx,if_neg (by omega),List.append_nil]⟩)
 ·obtain rfl:i=m.length:=by have:=of_decide_eq_false hb14;omega
  rw[List.take_of_length_le (Nat.le_refl _)]at he;rw[he];refine go 8 ?_;exact rE idh v trivial
end Go.Proofs.Q

/- Part of the proof; no statement of its own. -/
import Derived.Test.YtpinhnikemamjaaGreatDoorD19
import Derived.Test.YtpinhnikemamjaaGreatDoorD28
import Derived.Test.YtpinhnikemamjaaGreatDoorD12
import Derived.Test.YtpinhnikemamjaaGreatDoorD17
import Derived.Test.YtpinhnikemamjaaGreatDoorD13
import Derived.Test.YtpinhnikemamjaaGreatDoorD24
set_option linter.all false
set_option maxRecDepth 4000
set_option maxHeartbeats 4000000
attribute [local irreducible] Go.Sl.a0P Go.Sl.OW Go.Sl.CW Go.Sl.OS Go.Sl.OM Go.Sl.OMf Go.Sl.KM
namespace Go.Proofs.Q
open Go.Sl Go.Sb Tryz
section
theorem l2Z (X:BitVec 32):l0X X.toNat 4=Sha.be4 X:=by
 have h: ∀k:Nat,k≤24→UInt8.ofNat (X.toNat/2^k)=(⟨(X >>> k).setWidth 8⟩:UInt8):=fun k b=>by
  apply UInt8.toNat_inj.1;rw[UInt8.toNat_ofNat'];show _=((X >>> k).setWidth 8).toNat;rw[BitVec.toNat_setWidth,BitVec.toNat_ushiftRight,Nat.shiftRight_eq_div_pow]
 have a:X.toNat=X.toNat/2^0:=by simp
 show [UInt8.ofNat (X.toNat/256^3),UInt8.ofNat (X.toNat/256^2),UInt8.ofNat (X.toNat/256^1),UInt8.ofNat (X.toNat/256^0)]=_;rw[show(256:Nat)^3=2^24 from rfl,show(256:Nat)^2=2^16 from rfl,show(256:Nat)^1=2^8 from rfl,show(256:Nat)^0=2^0 from rfl,h 24 (by omega),h 16 (by omega),h 8 (by omega),h 0 (by omega)];unfold Sha.be4;rw[show X >>> 0=X from BitVec.ushiftRight_zero X]
theorem m2A (n:Nat):l0X n 8=Sha.be8 n:=rfl
theorem m2B (w v:List Sha.W) (i:Nat):Sha.j0U w v (i+1)=Sha.rnd (Sha.j0U w v i) (Sha.at_ Sha.e0N i) (Sha.at_ w i):=rfl
theorem c2W (n j:Nat) (a:j≤Sha.m0Y n):((n+1+j)%64≠56)=(j<Sha.m0Y n):=by
 unfold Sha.m0Y at*
 apply propext;constructor<;>intro h<;>omega
theorem q2Y {h v:List Sha.W} {i:Nat} (a:h.length=8) (c:v.length=8) (hi:i<8):
 ((List.zipWith (· + ·) h v).take i++h.drop i).set i (Sha.at_ h i+Sha.at_ v i)=(List.zipWith (· + ·) h v).take (i+1)++h.drop (i+1):=by
 have d:(List.zipWith (· + ·) h v).length=8:=by rw[List.length_zipWith,a,c];rfl
 have b:((List.zipWith (· + ·) h v).take i).length=i:=by rw[List.length_take];omega
 rw[List.set_append_right _ _ (by omega),b,Nat.sub_self,List.drop_eq_getElem_cons (by omega),List.set_cons_zero,List.take_succ,List.getElem?_eq_getElem (by omega)];simp only[List.getElem_zipWith,Option.toList_some,List.append_assoc,List.singleton_append];unfold Sha.at_;rw[List.getD_eq_getElem?_getD,List.getD_eq_getElem?_getD,List.getElem?_eq_getElem (by omega),List.getElem?_eq_getElem (by omega)];rfl
theorem y2J {h v:List Sha.W} {i:Nat} (a:h.length=8) (c:v.length=8) (hi:i<8):nth (((List.zipWith (· + ·) h v).take i++h.drop i).map i32) i=some (i32 (Sha.at_ h i)):=by
 have d:(List.zipWith (· + ·) h v).length=8:=by rw[List.length_zipWith,a,c];rfl
 have b:((List.zipWith (· + ·) h v).take i).length=i:=by rw[List.length_take];omega
 rw[e0F,List.getElem?_map,List.getElem?_append_right (by omega),b,Nat.sub_self,List.getElem?_drop,Nat.add_zero,List.getElem?_eq_getElem (by omega)];unfold Sha.at_;rw[List.getD_eq_getElem?_getD,List.getElem?_eq_getElem (by omega)];rfl
theorem q2Z {v:List Sha.W} (h:v.length=8):v.map i32= [i32 (Sha.at_ v 0),i32 (Sha.at_ v 1),i32 (Sha.at_ v 2),i32 (Sha.at_ v 3),i32 (Sha.at_ v 4),i32 (Sha.at_ v 5),i32 (Sha.at_ v 6),i32 (Sha.at_ v 7)]:=by
 match v,h with
 | [a,b,c,d,e,f,g,i],_=>rfl
theorem g2O (n:Nat) (h:List Sha.W) (b:B):Sha.f0J (n+1) h b=Sha.f0J n (Sha.mix h (b.take 64)) (b.drop 64):=rfl
abbrev n64 (x:BitVec 32):Value:= .int .i64 (x.toNat:Int)
set_option maxRecDepth 8000
theorem k1E (s:B) (hs:s.length≤100000):a0G prog 188 #[b0C s] [] (a0T (b0C (Sha.sum s)) []):=by
 have hss:(bs s).size=s.length:=b0H s;obtain⟨p,hp⟩: ∃p,p=Sha.m0J s:=⟨_,rfl⟩;have hfl:Sha.m0Y s.length<64:=by unfold Sha.m0Y;omega
 have hpl:p.length=s.length+1+Sha.m0Y s.length+8:=by rw[hp];simp[Sha.m0J,Sha.be8];omega
 have hp64:p.length%64=0:=by rw[hpl];unfold Sha.m0Y;omega
 have hsl:Sha.start.length=8:=rfl;obtain⟨c,T⟩: ∃c,c=p.length/64:=⟨_,rfl⟩;have C:Sha.sum s=(Sha.f0J c Sha.start p).flatMap Sha.be4:=by rw[T,hp];rfl
 refine en func188 ntmps188 fun R w0=> ?_;refine go 7 ?_;refine bl fun a=> ?_;refine e0X (fun w h=>b1R (n:=8) (cs:=Sha.start.map i32) rfl (by simp[maxLen]) h) ?_;refine go 6 ?_;refine a0D (h0N rfl rfl (by rw[b0H,show(⟨#[128]⟩:ByteArray).size=1 from rfl];omega)) ?_;rw[show bs s++(⟨#[128]⟩:ByteArray)=bs (s++128::a0L 0)from(h0U s [128]).symm];refine go 5 ?_;refine a0V (X:= {j:Nat // j≤Sha.m0Y s.length}) (fun y=> [(0,b0C s),(3,.slice (some ⟨a,0,none⟩) 8 8),(4,b0C (s++128::a0L y.1))]) (fun y=> [b0I 3 1 (.slice (some ⟨a,0,none⟩) 8 8) 8 (Sha.start.map i32),R]) (fun y=>Sha.m0Y s.length-y.1) ⟨0,Nat.zero_le _⟩ gSu gSp ?_;rintro⟨j,hj⟩ m0 hm0
 try simp only at hm0
 try dsimp only
 skip;refine go 5 ?_;rw[b0H,show(s++128::a0L j).length=s.length+1+j by simp[a0L];omega];refine go 4 ?_;refine a0O rfl (fun q=> ?_) (fun q=> ?_)
 ·have hjl:j<Sha.m0Y s.length:=by
   rw[←c2W s.length j hj];have h:=q;simp only[bne_iff_ne,ne_eq]at h;omega
  refine go 5 ?_;refine a0D (h0N rfl rfl (by rw[b0H,show(⟨#[0]⟩:ByteArray).size=1 from rfl];simp[a0L];omega)) ?_;rw[show bs (s++128::a0L j)++(⟨#[0]⟩:ByteArray)=bs (s++128::a0L (j+1)) by rw[show(⟨#[0]⟩:ByteArray)=bs [0]from rfl,←h0U,show s++128::a0L j++ [0]=s++128::a0L (j+1) by simp[a0L,List.replicate_succ']]];refine go 2 ?_;exact rd idh (⟨j+1,hjl⟩)
 ·obtain rfl:j=Sha.m0Y s.length:=by
   have h1: ¬(s.length+1+j)%64≠56:=by have h:=q;simp only[bne_eq_false_iff_eq]at h;omega
   rw[c2W s.length j hj]at h1;omega
  refine go 7 ?_;rw[hss];refine go 1 ?_;rw[show(8:Int)*((s.length:Nat):Int)=((8*s.length:Nat):Int) by omega];refine cg 0 (i1C (8*s.length) 8 (by omega) (by omega)) ?_;refine a0D (h0N rfl rfl (by rw[b0H,b0H];simp[a0L,l0X];omega)) ?_;rw[show bs (s++128::a0L (Sha.m0Y s.length))++bs (l0X (8*s.length) 8)=bs p by rw[←h0U,m2A,hp];unfold Sha.m0J a0L;simp];refine ce 5 (r1W) ?_;rintro D _;refine ns ?_;simp only[id];refine go 10 ?_;refine a0V (X:= {x:Nat×List Sha.W // x.1≤c∧x.2.length=8∧Sha.f0J c Sha.start p=Sha.f0J (c-x.1) x.2 (p.drop (64*x.1))}) (fun y=> [(3,.slice (some ⟨a,0,none⟩) 8 8),(4,b0C p),(5,D),(6,.int .i64 (64*(y.1.1:Int)))]) (fun y=> [b0I 3 1 (.slice (some ⟨a,0,none⟩) 8 8) 8 (y.1.2.map i32),b0I 3 1 D 64 (Sha.e0N.map i32),R]) (fun y=>c-y.1.1) ⟨(0,Sha.start),Nat.zero_le _,hsl,rfl⟩ gSu gSp ?_;rintro⟨⟨m,h⟩,hm,hhl,hmx⟩ m2 hm2
  try simp only at hm2
  try dsimp only
  simp only at hm hhl hmx;have hps:(bs p).size=p.length:=b0H p;refine go 6 ?_;rw[hps];refine go 3 ?_;refine a0O rfl (fun t=> ?_) (fun t=> ?_)
  ·have hml:m<c:=by have:=of_decide_eq_true t;omega
   obtain⟨b,z⟩: ∃b,b=(p.drop (64*m)).take 64:=⟨_,rfl⟩;have hbl:b.length=64:=by rw[z,List.length_take,List.length_drop];omega
   obtain⟨ws,G⟩: ∃ws,ws=Sha.k0U b:=⟨_,rfl⟩;have hwl:ws.length=64:=by rw[G];exact Sha.p1W b
   have hrl:Sha.e0N.length=64:=rfl;refine go 10 ?_;refine a0D (g1F Tst.o rfl rfl rfl (by omega)) ?_;rw[show(bs p).extract (64*(m:Int)).toNat (64*(m:Int)+64).toNat=bs b by rw[l1V,z,List.drop_take];congr 2<;>omega];refine ce 0 (z1V b hbl) ?_;rintro v7 _;refine ns ?_;simp only[id];rw[←G];refine go 7 ?_;refine b0V (a0X (v:=n64 (Sha.at_ h 0)) Sc.o rfl gFd (i0U h 0 (by omega))) ?_;refine go 2 ?_;refine b0V (a0X (v:=n64 (Sha.at_ h 1)) Sc.o rfl gFd (i0U h 1 (by omega))) ?_;refine go 2 ?_;refine b0V (a0X (v:=n64 (Sha.at_ h 2)) Sc.o rfl gFd (i0U h 2 (by omega))) ?_;refine go 2 ?_;refine b0V (a0X (v:=n64 (Sha.at_ h 3)) Sc.o rfl gFd (i0U h 3 (by omega))) ?_;refine go 2 ?_;refine b0V (a0X (v:=n64 (Sha.at_ h 4)) Sc.o rfl gFd (i0U h 4 (by omega))) ?_;refine go 2 ?_;refine b0V (a0X (v:=n64 (Sha.at_ h 5)) Sc.o rfl gFd (i0U h 5 (by omega))) ?_;refine go 2 ?_;refine b0V (a0X (v:=n64 (Sha.at_ h 6)) Sc.o rfl gFd (i0U h 6 (by omega))) ?_;refine go 2 ?_;refine b0V (a0X (v:=n64 (Sha.at_ h 7)) Sc.o rfl gFd (i0U h 7 (by omega))) ?_;refine go 17 ?_;refine a0V (X:= {i:Nat // i≤64}) (fun y=> [(3,.slice (some ⟨a,0,none⟩) 8 8),(4,b0C p),(5,D),(6,.int .i64 (64*(m:Int))),(7,v7),(8,n64 (Sha.at_ (Sha.j0U ws h y.1) 0)),(9,n64 (Sha.at_ (Sha.j0U ws h y.1) 1)),(10,n64 (Sha.at_ (Sha.j0U ws h y.1) 2)),(11,n64 (Sha.at_ (Sha.j0U ws h y.1) 3)),(12,n64 (Sha.at_ (Sha.j0U ws h y.1) 4)),(13,n64 (Sha.at_ (Sha.j0U ws h y.1) 5)),(14,n64 (Sha.at_ (Sha.j0U ws h y.1) 6)),(15,n64 (Sha.at_ (Sha.j0U ws h y.1) 7)),(16,.int .i64 y.1)]) (fun y=> [b0I 3 1 (.slice (some ⟨a,0,none⟩) 8 8) 8 (h.map i32),b0I 3 1 D 64 (Sha.e0N.map i32),b0I 3 1 v7 64 (ws.map i32),R]) (fun y=>64-y.1) ⟨0,Nat.zero_le _⟩ gSu gSp ?_;rintro⟨i,hi⟩ m4 hm4
   try simp only at hm4
   try dsimp only
   skip;refine go 7 ?_;refine a0O rfl (fun u=> ?_) (fun u=> ?_)
   ·have g:i<64:=by have:=of_decide_eq_true u;omega
    have E:=m2B ws h i;obtain⟨H,U⟩: ∃x,x=Sha.at_ (Sha.j0U ws h i) 0:=⟨_,rfl⟩;obtain⟨vb,V⟩: ∃x,x=Sha.at_ (Sha.j0U ws h i) 1:=⟨_,rfl⟩;obtain⟨vc,Y⟩: ∃x,x=Sha.at_ (Sha.j0U ws h i) 2:=⟨_,rfl⟩;obtain⟨vd,Z⟩: ∃x,x=Sha.at_ (Sha.j0U ws h i) 3:=⟨_,rfl⟩;obtain⟨A,hve⟩: ∃x,x=Sha.at_ (Sha.j0U ws h i) 4:=⟨_,rfl⟩;obtain⟨vf,hvf⟩: ∃x,x=Sha.at_ (Sha.j0U ws h i) 5:=⟨_,rfl⟩;obtain⟨vg,hvg⟩: ∃x,x=Sha.at_ (Sha.j0U ws h i) 6:=⟨_,rfl⟩;obtain⟨vz,hvz⟩: ∃x,x=Sha.at_ (Sha.j0U ws h i) 7:=⟨_,rfl⟩;obtain⟨kk,N⟩: ∃x,x=Sha.at_ Sha.e0N i:=⟨_,rfl⟩;obtain⟨ww,hww⟩: ∃x,x=Sha.at_ ws i:=⟨_,rfl⟩;unfold Sha.rnd at E;rw[←U,←V,←Y,←Z,←hve,←hvf,←hvg,←hvz,←N,←hww]at E;rw[←U,←V,←Y,←Z,←hve,←hvf,←hvg,←hvz];have l1:=(A &&& vf).isLt;have l2:=(~~~A &&& vg).isLt;refine go 8 ?_;refine a0D (e1F rfl rfl) ?_;refine go 1 ?_;refine a0D (x2L rfl) ?_;refine go 1 ?_;refine a0D (e1F rfl rfl) ?_;refine a0D (s1L (m:=((A &&& vf).toNat:Int)) (n:=((~~~A &&& vg).toNat:Int)) rfl rfl (by omega)) ?_;obtain⟨ch,L⟩: ∃x,x=(A &&& vf ^^^ ~~~A &&& vg):=⟨_,rfl⟩;rw[o2J,←L];refine go 7 ?_;refine a0D (e1F rfl rfl) ?_;refine go 2 ?_;refine a0D (e1F rfl rfl) ?_;refine a0D (e2A rfl rfl) ?_;refine go 2 ?_;refine a0D (e1F rfl rfl) ?_;refine a0D (e2A rfl rfl) ?_;obtain⟨mj,P⟩: ∃x,x=(H &&& vb ^^^ H &&& vc ^^^ vb &&& vc):=⟨_,rfl⟩;rw[x2M,←P];refine go 4 ?_;refine i0T (e:=3) (v:=D) (show Fnd _ (b0I 3 1 D 64 (Sha.e0N.map i32)) _ from gFd) (by omega) fun bk J hvk hcapk=> ?_;subst hvk;refine i0T (e:=3) (v:=v7) (show Fnd _ (b0I 3 1 v7 64 (ws.map i32)) _ from gFd) (by omega) fun bw K hvw hcapw=> ?_;subst hvw;obtain⟨s1,S⟩: ∃x,x=Sha.t1 A:=⟨_,rfl⟩;have l3:=vz.isLt;have l4:=s1.isLt;have l5:=ch.isLt;have l6:=kk.isLt;have l7:=ww.isLt;obtain⟨I,hxx⟩: ∃x,x=vz+s1+ch+kk+ww:=⟨_,rfl⟩;refine mx (.r 0 2 (.soft 3 (.soft 6 (.soft 10 (.r 12 4 (.r 17 4 (.hard 2 (.hard 4 (.soft 5 (.hard 7 (.r 8 2 (.soft 11 (.soft 16 (.soft 21 (.hard 22 (.soft 23 .done)))))))))))))))) [b0I 3 1 (.slice (some ⟨bk,0,none⟩) 64 J) 64 (Sha.e0N.map i32),b0I 3 1 (.slice (some ⟨bw,0,none⟩) 64 K) 64 (ws.map i32)] ?_;refine go 8 ?_;refine d0A rfl (a0X (v:=n64 kk) Sc.o rfl gFd (by rw[show 0+((i:Int)).toNat*1=i by omega,N];exact i0U Sha.e0N i (by omega))) ?_;refine go 3 ?_;refine d0A rfl (a0X (v:=n64 ww) Sc.o rfl gFd (by rw[show 0+((i:Int)).toNat*1=i by omega,hww];exact i0U ws i (by omega))) ?_;refine cg 1 (l0T A 6 (by omega) (by omega)) ?_;refine cg 3 (l0T A 11 (by omega) (by omega)) ?_;refine go 2 ?_;refine d0A rfl (v0P rfl rfl) ?_;refine cg 1 (l0T A 25 (by omega) (by omega)) ?_;refine go 2 ?_;refine d0A rfl (show Sl.a0P _ _ _ _ (n64 s1)from S▸v0P rfl rfl) ?_;refine go 5 ?_;refine b0X rfl Hb.o rfl (y0Q _ I (by omega) (by rw[hxx];simp only[BitVec.toNat_add];omega)) gSp ?_;refine ns ?_;refine go 6 ?_;obtain⟨s0,Q⟩: ∃x,x=Sha.t0 H:=⟨_,rfl⟩;have m1:=s0.isLt;have m2:=mj.isLt;obtain⟨yy,hyy⟩: ∃x,x=s0+mj:=⟨_,rfl⟩;refine cg 2 (l0T H 2 (by omega) (by omega)) ?_;refine cg 1 (l0T H 13 (by omega) (by omega)) ?_;refine a0D (v0P rfl rfl) ?_;refine cg 1 (l0T H 22 (by omega) (by omega)) ?_;refine a0D (show Sl.a0P _ _ _ _ (n64 s0)from Q▸v0P rfl rfl) ?_;refine go 2 ?_;refine b0X rfl Hb.o rfl (y0Q _ yy (by omega) (by rw[hyy];simp only[BitVec.toNat_add];omega)) gSp ?_;refine ns ?_;refine go 3 ?_;have q1:=vd.isLt;have q2:=I.isLt;have q3:=yy.isLt;refine go 7 ?_;refine b0X rfl Hb.o rfl (y0Q _ (vd+I) (by omega) (by simp only[BitVec.toNat_add];omega)) gSp ?_;refine ns ?_;refine go 6 ?_;refine b0X rfl Hb.o rfl (y0Q _ (I+yy) (by omega) (by simp only[BitVec.toNat_add];omega)) gSp ?_;refine ns ?_;refine go 15 ?_;have hnx:Sha.j0U ws h (i+1)= [I+yy,H,vb,vc,vd+I,A,vf,vg]:=by
     rw[E,hxx,hyy,S,Q,L,P];simp only[List.cons.injEq,true_and,and_true];refine⟨?_,?_⟩<;>(apply BitVec.eq_of_toNat_eq;simp only[BitVec.toNat_add];omega)
    refine e1A idh (⟨i+1,g⟩) (by first|omega| (simp only;omega)) (by rw[hnx];exact gSu) gSp
   ·obtain rfl:i=64:=by have:=of_decide_eq_false u;omega
    obtain⟨v,hv⟩: ∃v,v=Sha.j0U ws h 64:=⟨_,rfl⟩;have F:v.length=8:=by rw[hv];exact t1Q ws h hhl 64
    rw[←hv];refine go 12 ?_;refine bl fun k=> ?_;refine e0X (fun w h=>b1R (n:=8) (cs:= [n64 (Sha.at_ v 0),n64 (Sha.at_ v 1),n64 (Sha.at_ v 2),n64 (Sha.at_ v 3),n64 (Sha.at_ v 4),n64 (Sha.at_ v 5),n64 (Sha.at_ v 6),n64 (Sha.at_ v 7)]) rfl (by simp[maxLen]) h) ?_;rw[show [n64 (Sha.at_ v 0),n64 (Sha.at_ v 1),n64 (Sha.at_ v 2),n64 (Sha.at_ v 3),n64 (Sha.at_ v 4),n64 (Sha.at_ v 5),n64 (Sha.at_ v 6),n64 (Sha.at_ v 7)]=v.map i32 from(q2Z F).symm];refine go 5 ?_;refine a0V (X:= {i:Nat // i≤8}) (fun y=> [(3,.slice (some ⟨a,0,none⟩) 8 8),(4,b0C p),(5,D),(6,.int .i64 (64*(m:Int))),(157,.slice (some ⟨k,0,none⟩) 8 8),(158,.int .i64 8),(159,.int .i64 y.1)]) (fun y=> [b0I 3 1 (.slice (some ⟨a,0,none⟩) 8 8) 8 (((List.zipWith (· + ·) h v).take y.1++h.drop y.1).map i32),b0I 3 1 (.slice (some ⟨k,0,none⟩) 8 8) 8 (v.map i32),b0I 3 1 D 64 (Sha.e0N.map i32),R]) (fun y=>8-y.1) ⟨0,Nat.zero_le _⟩ gSu gSp ?_;rintro⟨i,hi⟩ m6 hm6
    try simp only at hm6
    try dsimp only
    skip;refine go 6 ?_;refine a0O rfl (fun d=> ?_) (fun d=> ?_)
    ·have g:i<8:=by have:=of_decide_eq_true d;omega
     have r1:=(Sha.at_ h i).isLt;have r2:=(Sha.at_ v i).isLt;refine go 8 ?_;refine a0D (a0X (v:=n64 (Sha.at_ v i)) Sc.o rfl (show Fnd _ (b0I 3 1 (.slice (some ⟨k,0,none⟩) 8 8) 8 (v.map i32)) _ from gFd) (by rw[show 0+((i:Int)).toNat*1=i by omega];exact i0U v i (by omega))) ?_;refine go 10 ?_;refine a0D (a0X (v:=n64 (Sha.at_ h i)) Sc.o rfl (show Fnd _ (b0I 3 1 (.slice (some ⟨a,0,none⟩) 8 8) 8 (((List.zipWith (· + ·) h v).take i++h.drop i).map i32)) _ from gFd) (by rw[show 0+((i:Int)).toNat*1=i by omega];exact y2J hhl F g)) ?_;refine go 2 ?_;refine b0X rfl Hb.o rfl (y0Q _ (Sha.at_ h i+Sha.at_ v i) (by omega) (by simp only[BitVec.toNat_add];omega)) gSp ?_;refine ns ?_;refine go 1 ?_;refine c0H (xs':=((List.zipWith (· + ·) h v).take (i+1)++h.drop (i+1)).map i32) Sz.o rfl rfl rfl (show Fnd _ (b0I 3 1 (.slice (some ⟨a,0,none⟩) 8 8) 8 (((List.zipWith (· + ·) h v).take i++h.drop i).map i32)) _ from gFd) (by rw[show 0+((i:Int)).toNat*1=i by omega];simp;omega) (by rw[show 0+((i:Int)).toNat*1=i by omega,←q2Y hhl F g,List.map_set];rfl) ?_;refine go 6 ?_;exact rd idh (⟨i+1,g⟩)
    ·obtain rfl:i=8:=by have:=of_decide_eq_false d;omega
     have O:(List.zipWith (· + ·) h v).take 8++h.drop 8=Sha.mix h b:=by
      rw[List.take_of_length_le (by rw[List.length_zipWith];omega),List.drop_of_length_le (by omega),List.append_nil,hv,G];rfl
     rw[O];refine go 5 ?_;rw[show 64*(m:Int)+64=64*((m+1:Nat):Int) by omega];refine go 2 ?_;exact rd idh (⟨(m+1,Sha.mix h b),hml,by(show(Sha.mix h b).length=8);exact b2H hhl b,by(show _=Sha.f0J (c- (m+1)) (Sha.mix h b) (p.drop (64*(m+1))));rw[hmx,show c-m=c- (m+1)+1 by omega,g2O,←z,List.drop_drop];rfl⟩)
  ·obtain rfl:m=c:=by have:=of_decide_eq_false t;omega
   have M:Sha.f0J m Sha.start p=h:=by rw[hmx,Nat.sub_self];rfl
   rw[M]at C;refine go 16 ?_;refine a0V (X:= {i:Nat // i≤8}) (fun y=> [(23,b0C ((h.take y.1).flatMap Sha.be4)),(175,.slice (some ⟨a,0,none⟩) 8 8),(176,.int .i64 8),(177,.int .i64 y.1)]) (fun y=> [b0I 3 1 (.slice (some ⟨a,0,none⟩) 8 8) 8 (h.map i32),R]) (fun y=>8-y.1) ⟨0,Nat.zero_le _⟩ gSu gSp ?_;rintro⟨i,hi⟩ m8 hm8
   try simp only at hm8
   try dsimp only
   skip;refine go 6 ?_;refine a0O rfl (fun f=> ?_) (fun f=> ?_)
   ·have g:i<8:=by have:=of_decide_eq_true f;omega
    have r1:=(Sha.at_ h i).isLt;have hfl4:((h.take i).flatMap Sha.be4).length≤32:=by
     have: ∀l:List Sha.W,(l.flatMap Sha.be4).length=4*l.length:=fun l=>by
      induction l with
      |nil=>rfl
      |cons x l ih=>rw[List.flatMap_cons,List.length_append,ih,List.length_cons];show 4+_=_;omega
     rw[this,List.length_take];omega
    refine go 7 ?_;refine a0D (a0X (v:=n64 (Sha.at_ h i)) Sc.o rfl gFd (by rw[show 0+((i:Int)).toNat*1=i by omega];exact i0U h i (by omega))) ?_;refine cg 6 (i1C (Sha.at_ h i).toNat 4 (by omega) (by omega)) ?_;refine a0D (h0N rfl rfl (by rw[b0H,b0H,show(l0X (Sha.at_ h i).toNat 4).length=4 by simp[l0X]];omega)) ?_;rw[←h0U,l2Z,show(h.take i).flatMap Sha.be4++Sha.be4 (Sha.at_ h i)=(h.take (i+1)).flatMap Sha.be4 by rw[List.take_succ,List.getElem?_eq_getElem (by omega),List.flatMap_append];simp[Sha.at_,List.getD_eq_getElem?_getD,List.getElem?_eq_getElem (show i<h.length by omega)]];refine go 7 ?_;exact rd idh (⟨i+1,g⟩)
   ·obtain rfl:i=8:=by have:=of_decide_eq_false f;omega
    rw[List.take_of_length_le (by omega),←C];refine go 8 ?_;exact rG
end
def hb (x k:Nat):Nat→Nat
 |0=>0
 |b+1=>2*hb x k b+(if k≤b then 0 else x/2^(7-b)%2)
theorem g2P (x k:Nat): ∀b,hb x k b<2^b
 |0=>Nat.one_pos
 |b+1=>by
  have:=g2P x k b;unfold hb;rw[Nat.pow_succ];split<;>omega
theorem v2V: ∀k,k<8→ ∀x,x<256→hb x k 8=(UInt8.ofNat x &&& UInt8.ofNat (255-255/2^k)).toNat:=by decide+kernel
theorem y2K: ∀x,x<256→hb x 8 8=x:=by decide+kernel
theorem s2P (x k:Nat) (h:8≤k): ∀b,b≤8→hb x k b=hb x 8 b
 |0,_=>rfl
 |b+1,hb8=>by
  unfold hb;rw[s2P x k h b (by omega),if_neg (by omega),if_neg (by omega)]
theorem m2C (n i:Nat) (c:UInt8):(UInt8.ofNat (hb c.toNat (n-8*i) 8))=if n<8*i+8 then c &&& UInt8.ofNat (255-255/2^(n-8*i))else c:=by
 have a:=c.toNat_lt;apply UInt8.toNat_inj.1;rw[UInt8.toNat_ofNat',Nat.mod_eq_of_lt (g2P _ _ 8)];split
 ·rw[v2V _ (by omega) _ (by omega),UInt8.ofNat_toNat]
 ·rw[s2P _ _ (by omega) 8 (by omega),y2K _ (by omega)]
theorem m2D (n:Nat) (l:B) (i:Nat) (h:i<l.length):(c0O n l).take (i+1)=(c0O n l).take i++ [UInt8.ofNat (hb l[i].toNat (n-8*i) 8)]:=by
 have a:(c0O n l).length=l.length:=by simp[c0O]
 rw[List.take_succ,List.getElem?_eq_getElem (by omega),m2C];simp[c0O]
theorem g2Q (l:B) (n:Nat) (G:l.length≤10000) (H:n≤256):a0G prog 261 #[b0C l,.int .i64 n] [] (a0T (b0C (c0O n l)) []):=by
 have D:(c0O n l).length=l.length:=by simp[c0O]
 have p:(bs l).size=l.length:=b0H l;refine en func261 ntmps261 fun R w0=> ?_;refine go 7 ?_;refine bl fun m=> ?_;refine go 5 ?_;refine b0U (fun w h=>o0K 1 h) ?_;refine go 5 ?_;refine a0V (X:= {x:Nat×Value // x.1≤l.length}) (fun y=> [(0,b0C l),(1,.int .i64 n),(5,y.1.2),(6,.int .i64 y.1.1)]) (fun y=> [b0I 5 1 y.1.2 y.1.1 (((c0O n l).take y.1.1).map a0Q),R]) (fun y=>l.length-y.1.1) ⟨(0,.slice (some ⟨m,0,none⟩) 0 0),Nat.zero_le _⟩ gSu gSp ?_;rintro⟨⟨i,v⟩,hi⟩ m0 hm0
 try simp only at hm0
 try dsimp only
 simp only at hi;refine go 6 ?_;rw[p];refine go 3 ?_;refine a0O rfl (fun a=> ?_) (fun a=> ?_)
 ·have f:i<l.length:=by have:=of_decide_eq_true a;omega
  refine go 16 ?_;refine a0V (X:= {b:Nat // b≤8}) (fun y=> [(0,b0C l),(1,.int .i64 n),(5,v),(6,.int .i64 i),(7,.int .i64 (hb l[i].toNat (n-8*i) y.1)),(8,.int .i64 y.1)]) (fun y=> [b0I 5 1 v i (((c0O n l).take i).map a0Q),R]) (fun y=>8-y.1) ⟨0,by decide⟩ gSu gSp ?_;rintro⟨b,hb8⟩ m2 hm2
  try simp only at hm2
  try dsimp only
  skip;refine go 7 ?_;refine a0O rfl (fun c=> ?_) (fun c=> ?_)
  ·have j:b<8:=by have:=of_decide_eq_true c;omega
   have F:=(l[i]).toNat_lt;have E:=g2P l[i].toNat (n-8*i) b;have z:(2:Nat)^b≤2^7:=Nat.pow_le_pow_right (by decide) (by omega);have hu:(bs l).data.toList[i]? =some l[i]:=by rw[m0D,List.getElem?_eq_getElem f]
   have q:((l[i].toNat:Nat):Int)/2^((7:Int)- (b:Int)).toNat=((l[i].toNat/2^(7-b):Nat):Int):=by rw[show((7:Int)- (b:Int)).toNat=7-b by omega];norm_cast
   refine go 8 ?_;refine a0D (d1U Tst.o rfl rfl (by omega) (u:=l[i]) hu) ?_;refine go 1 ?_;rw[i1D];refine go 2 ?_;refine a0D (t0B rfl rfl (by first|decide| (simp only[IntKind.bits];omega))) ?_;rw[q];refine a0D (k1P rfl rfl ⟨Int.natCast_nonneg _,by decide⟩) ?_;refine go 3 ?_;refine j0D (X:=Unit) (fun _=> [(0,b0C l),(1,.int .i64 n),(5,v),(6,.int .i64 i),(7,.int .i64 (hb l[i].toNat (n-8*i) b)),(8,.int .i64 b),(9,.int .i64 ((if n-8*i≤b then 0 else l[i].toNat/2^(7-b)%2:Nat):Int))]) (fun _=> [b0I 5 1 v i (((c0O n l).take i).map a0Q),R]) ?_ ?_
   ·refine go 10 ?_;refine a0O rfl (fun d=> ?_) (fun d=> ?_)
    ·have g:n-8*i≤b:=by have h:=d;simp only[decide_eq_true_eq]at h;omega
     rw[if_pos g];refine go 3 ?_;exact me idh (())
    ·have g: ¬n-8*i≤b:=by have h:=d;simp only[decide_eq_false_iff_not]at h;omega
     rw[if_neg g];refine go 1 ?_;exact me idh (())
   rintro _;obtain⟨k,e⟩: ∃k:Nat,k=if n-8*i≤b then 0 else l[i].toNat/2^(7-b)%2:=⟨_,rfl⟩
   have t:k≤1:=by rw[e];split<;>omega
   rw[←e];refine go 5 ?_;rw[show(2:Int)*((hb l[i].toNat (n-8*i) b:Nat):Int)+(k:Int)=((hb l[i].toNat (n-8*i) (b+1):Nat):Int) by rw[e];show _=((2*hb l[i].toNat (n-8*i) b+_:Nat):Int);omega];refine go 8 ?_;exact rd idh (⟨b+1,j⟩)
  ·obtain rfl:b=8:=by have:=of_decide_eq_false c;omega
   obtain⟨u,hu⟩: ∃u,u=UInt8.ofNat (hb l[i].toNat (n-8*i) 8):=⟨_,rfl⟩;have r:IntKind.u8.wrap ((hb l[i].toNat (n-8*i) 8:Nat):Int)=(u.toNat:Int):=by rw[hu,IntKind.wrap_u8,UInt8.toNat_ofNat'];omega
   refine go 6 ?_;rw[r];refine bl fun C=> ?_;refine(d0E Tsl.o Ttb.o Zr.o rfl rfl rfl gFd (f0I Tsl.o (by simp;rfl) (by simp) (by simp[Value.oneCell'])) (by simp only[maxLen];omega) (by omega) (fun s A=> ?_));refine go 2 ?_;rw[show((c0O n l).take i).map a0Q++ [Value.int .u8 (u.toNat:Int)]=((c0O n l).take (i+1)).map a0Q by rw[m2D n l i f,←hu];simp[a0Q]];refine go 6 ?_;exact rd idh (⟨(i+1,s),f⟩)
 ·obtain rfl:i=l.length:=by have:=of_decide_eq_false a;omega
  rw[List.take_of_length_le (by omega)];refine go 5 ?_;refine a0D (y0V Tsl.o Tst.o Tby.o rfl gFd) ?_;refine go 3 ?_;exact rG
theorem w1U (l:B) (i:Nat) (h:i<l.length):a0R (l.take (i+1))=(a0R (l.take i)&&l[i] == 0):=by
 rw[List.take_succ,List.getElem?_eq_getElem h];unfold a0R;rw[List.all_append];simp
theorem w0U (l:B) (n:l.length≤1000000):a0G prog 173 #[b0C l] [] (a0T (.bool (a0R l)) []):=by
 have g:(bs l).size=l.length:=b0H l;refine en func173 ntmps173 fun R w0=> ?_;refine go 12 ?_;refine a0V (X:= {i:Nat // i≤l.length∧a0R (l.take i)=true}) (fun y=> [(0,b0C l),(3,.int .i64 y.1)]) (fun y=> [R]) (fun y=>l.length-y.1) ⟨0,Nat.zero_le _,rfl⟩ gSu gSp ?_;rintro⟨i,hi,hz⟩ m0 hm0
 try simp only at hm0
 try dsimp only
 skip;refine go 6 ?_;rw[g];refine go 3 ?_;refine a0O rfl (fun c=> ?_) (fun c=> ?_)
 ·have b:i<l.length:=by have:=of_decide_eq_true c;omega
  have hu:(bs l).data.toList[i]? =some l[i]:=by rw[m0D,List.getElem?_eq_getElem b]
  have k:=w1U l i b;refine go 8 ?_;refine a0D (d1U Tst.o rfl rfl (by omega) (u:=l[i]) hu) ?_;refine go 3 ?_;refine a0O rfl (fun a=> ?_) (fun a=> ?_)
  ·have j: ¬l[i]=0:=by intro h;rw[h]at a;exact absurd a (by decide)
   have m:a0R l=false:=by
    cases d:a0R l with
    |false=>rfl
    |true=>
     unfold a0R at d;rw[List.all_eq_true]at d;exact absurd (by simpa using d l[i] (List.getElem_mem b)) j
   refine go 5 ?_;exact rG (hu:=(by rw[m]))
  ·have f:l[i]=0:=UInt8.toNat_inj.1 (by have h:=a;simp only[bne_eq_false_iff_eq]at h;have e:(0:UInt8).toNat=0:=rfl;omega);refine go 7 ?_;exact rd idh (⟨i+1,b,by rw[k,hz,f];rfl⟩)
 ·obtain rfl:i=l.length:=by have:=of_decide_eq_false c;omega
  rw[List.take_of_length_le (by omega)]at hz;refine go 7 ?_;exact rG (hu:=(by rw[hz]))
abbrev z2X (n:Int):Value:= .agg #[.slice none 0 0,.int .i64 n]
theorem m1S (l:B) (n:Nat) (b:l.length≤100000) (c:n≤256):a0G prog 208 #[z2X n,b0C l] [] (a0T (b0C (key n (Sha.sum l))) []):=by
 refine en func208 ntmps208 fun R w0=> ?_;refine go 2 ?_;refine bx fun a=> ?_;refine go 4 ?_;refine mx (.soft 0 (.r 2 2 (.hard 1 (.hard 4 (.soft 5 .done))))) [pts a (.cells #[.slice none 0 0,.int .i64 n] 277 (0,0))] ?_;refine cg 4 (k1E l b) ?_;refine cg 3 (g2Q (Sha.sum l) n (by rw[p0Z];omega) c) ?_;refine go 5 ?_;exact rG
theorem z1Y (n:Nat) (c:n≤10000):a0G prog 171 #[.int .i64 n] [] (a0T (b0C (a0L (64*n))) []):=by
 refine en func171 ntmps171 fun R w0=> ?_;refine go 17 ?_;refine a0V (X:= {j:Nat // j≤64*n}) (fun y=> [(0,.int .i64 n),(3,b0C (a0L y.1)),(4,.int .i64 y.1)]) (fun y=> [R]) (fun y=>64*n-y.1) ⟨0,Nat.zero_le _⟩ gSu gSp ?_;rintro⟨j,hj⟩ m0 hm0
 try simp only at hm0
 try dsimp only
 skip;refine go 9 ?_;refine a0O rfl (fun a=> ?_) (fun a=> ?_)
 ·have b:j<64*n:=by have:=of_decide_eq_true a;omega
  refine go 6 ?_;refine a0D (h0N rfl rfl (by rw[b0H,show(⟨#[0]⟩:ByteArray).size=1 from rfl];simp[a0L];omega)) ?_;rw[show bs (a0L j)++(⟨#[0]⟩:ByteArray)=bs (a0L (j+1)) by rw[show(⟨#[0]⟩:ByteArray)=bs [0]from rfl,←h0U,show a0L j++ [0]=a0L (j+1) by simp[a0L,List.replicate_succ']]];refine go 8 ?_;exact rd idh (⟨j+1,b⟩)
 ·obtain rfl:j=64*n:=by have:=of_decide_eq_false a;omega
  refine go 8 ?_;exact rG
abbrev lfC (x:Lf):List Value:= [.int .i64 x.1,b0C x.2]
abbrev b1C (H:b0B) (mv:Value) (m:List Lf):Prop:=i0V H 259 2 mv m.length (m.flatMap lfC)
theorem c2X {at_:Int} : ∀ {m:List Lf} {i:Nat} (hi:i<m.length) (_: ∀j (h:j<i),m[j].1≠at_),m[i].1=at_→f0Y at_ m=m[i].2
 | (a,d)::r,0,hi,_,h=>by unfold f0Y;rw[if_pos (show a=at_ from h)];rfl
 | (a,d)::r,i+1,hi,hb,h=>by
  unfold f0Y;rw[if_neg (show ¬a=at_ from hb 0 (by omega))];exact c2X (m:=r) (i:=i) (by simpa using hi) (fun j b=>hb (j+1) (by omega)) h
theorem c2Y {at_:Int} : ∀ {m:List Lf} (_: ∀j (h:j<m.length),m[j].1≠at_),f0Y at_ m=a0L 256
 | [],_=>rfl
 | (a,d)::r,hb=>by
  unfold f0Y;rw[if_neg (show ¬a=at_ from hb 0 (by simp))];exact c2Y (m:=r) (fun j b=>hb (j+1) (by simpa using b))
theorem i1E (H:b0B) (mv:Value) (m:List Lf) (at_:Int) (v:b1C H mv m) (w:m.length≤1000000):a0G prog 145 #[mv,.int .i64 at_] [c0B H] (a0T (b0C (f0Y at_ m)) [c0B H]):=by
 obtain⟨p,cap,rfl,t⟩:=d0W v;refine en func145 ntmps145 fun R w0=> ?_;refine go 14 ?_;refine a0V (X:= {i:Nat // i≤m.length∧ ∀j (h:j<m.length),j<i→m[j].1≠at_}) (fun y=> [(1,.int .i64 at_),(9,.slice p m.length cap),(10,.int .i64 m.length),(11,.int .i64 y.1)]) (fun y=> [c0B H,R]) (fun y=>m.length-y.1) ⟨0,Nat.zero_le _,fun j _ g=>absurd g (Nat.not_lt_zero _)⟩ gSu gSp ?_;rintro⟨i,hi,hz⟩ m0 hm0
 try simp only at hm0
 try dsimp only
 skip;refine go 6 ?_;refine a0O rfl (fun a=> ?_) (fun a=> ?_)
 ·have e:i<m.length:=by have:=of_decide_eq_true a;omega
  obtain⟨b,o,s,cur,x,A,n,l,u⟩:=g0V v (by omega);cases x
  have q:(cur.drop (o+i*2)).take 2=lfC m[i]:=(i0I l e).trans (p0J (f:=lfC) (size:=2) (fun _=>rfl) m e);refine go 7 ?_;refine a0D (f0A (vs:=lfC m[i]) Ag.o rfl gFd n q rfl (by decide)) ?_;refine al fun z=> ?_;refine go 11 ?_;refine a0O rfl (fun c=> ?_) (fun c=> ?_)
  ·have r:m[i].1=at_:=by simpa using c
   refine go 7 ?_;exact rG (hu:=(by rw[c2X e (fun j g=>hz j (by omega) g) r]))
  ·have r: ¬m[i].1=at_:=by simpa using c
   refine go 6 ?_;exact rd idh (⟨i+1,e,fun j k g=>if h:j=i then by subst h;exact r else hz j k (by omega)⟩)
 ·obtain rfl:i=m.length:=by have:=of_decide_eq_false a;omega
  rw[c2Y (fun j g=>hz j g g)];refine go 14 ?_;refine a0V (X:= {j:Nat // j≤256}) (fun y=> [(7,b0C (a0L y.1)),(8,.int .i64 y.1)]) (fun y=> [c0B H,R]) (fun y=>256-y.1) ⟨0,Nat.zero_le _⟩ gSu gSp ?_;rintro⟨j,g⟩ m2 hm2
  try simp only at hm2
  try dsimp only
  skip;refine go 7 ?_;refine a0O rfl (fun d=> ?_) (fun d=> ?_)
  ·have k:j<256:=by have:=of_decide_eq_true d;omega
   refine go 6 ?_;refine a0D (h0N rfl rfl (by rw[b0H,show(⟨#[0]⟩:ByteArray).size=1 from rfl];simp[a0L];omega)) ?_;rw[show bs (a0L j)++(⟨#[0]⟩:ByteArray)=bs (a0L (j+1)) by rw[show(⟨#[0]⟩:ByteArray)=bs [0]from rfl,←h0U,show a0L j++ [0]=a0L (j+1) by simp[a0L,List.replicate_succ']]];refine go 8 ?_;exact rd idh (⟨j+1,k⟩)
  ·obtain rfl:j=256:=by have:=of_decide_eq_false d;omega
   refine go 8 ?_;exact rG
theorem w1V (at_:Int) (d:B) (done:Bool):p0L at_ d done []=if done then []else [(at_,d)]:=rfl
theorem r1F (at_:Int) (d:B) (done:Bool) (x:Lf) (r:List Lf):p0L at_ d done (x::r)=(if done=false∧at_<x.1 then [(at_,d)]else [])++(if x.1=at_ then []else [x])++p0L at_ d (done || decide (at_<x.1)) r:=by cases x;rfl
theorem w1W (at_:Int) (d:B): ∀(m:List Lf) (done:Bool),(p0L at_ d done m).length≤m.length*2+1
 | [],done=>by rw[w1V];split<;>simp
 |x::r,done=>by
  rw[r1F];have:=w1W at_ d r (done || decide (at_<x.1));simp only[List.length_append,List.length_cons];have a:(if done=false∧at_<x.1 then [(at_,d)]else []).length≤1:=by split<;>simp
  have b:(if x.1=at_ then []else [x]).length≤1:=by split<;>simp
  omega
abbrev u0C (v:Value) (out:List Lf):a0E:=b0I 259 2 v out.length (out.flatMap lfC)
theorem z1Z (H:b0B) (mv:Value) (m:List Lf) (at_:Int) (d:B) (I:b1C H mv m) (Q:m.length≤100000) (hd:d.length≤100000):a0G prog 175 #[mv,.int .i64 at_,b0C d] [c0B H] (b0P (fun _:Value=>True) id (fun v=> [u0C v (k0L m at_ d),c0B H])):=by
 obtain⟨p,cap,rfl,G⟩:=d0W I;have s:=w1W at_ d m (a0R d);refine en func175 ntmps175 fun R w0=> ?_;refine go 7 ?_;refine bl fun u=> ?_;refine go 4 ?_;refine b0U (fun w h=>o0K 2 h) ?_;refine cg 2 (w0U d (by omega)) ?_;refine go 12 ?_;refine a0V (X:= {x:Nat×Bool×List Lf×Value // x.1≤m.length∧k0L m at_ d=x.2.2.1++p0L at_ d x.2.1 (m.drop x.1)}) (fun y=> [(1,.int .i64 at_),(2,b0C d),(7,y.1.2.2.2),(8,.bool y.1.2.1),(14,.slice p m.length cap),(15,.int .i64 m.length),(16,.int .i64 y.1.1)]) (fun y=> [u0C y.1.2.2.2 y.1.2.2.1,c0B H,R]) (fun y=>m.length-y.1.1) ⟨(0,a0R d,[],.slice (some ⟨u,0,none⟩) 0 0),Nat.zero_le _,rfl⟩ gSu gSp ?_;rintro⟨⟨i,dn,out,v⟩,hi,he⟩ m0 hm0
 try simp only at hm0
 try dsimp only
 simp only at hi he;have S:out.length≤m.length*2+1:=by
  have P:=congrArg List.length he;have U:(k0L m at_ d).length≤m.length*2+1:=s;rw[List.length_append]at P;omega
 refine go 6 ?_;refine a0O rfl (fun c=> ?_) (fun c=> ?_)
 ·have l:i<m.length:=by have:=of_decide_eq_true c;omega
  obtain⟨b,o,F,cur,T,V,t,r,A⟩:=g0V I (by omega);cases T
  have z:(cur.drop (o+i*2)).take 2=lfC m[i]:=(i0I r l).trans (p0J (f:=lfC) (size:=2) (fun _=>rfl) m l);rw[List.drop_eq_getElem_cons l,r1F]at he;refine go 7 ?_;refine a0D (f0A (vs:=lfC m[i]) Ag.o rfl gFd t z rfl (by decide)) ?_;refine al fun q=> ?_;refine go 3 ?_;refine j0D (X:= {x:Bool×List Lf×Value // k0L m at_ d=x.2.1++((if m[i].1=at_ then []else [m[i]])++p0L at_ d x.1 (m.drop (i+1)))∧x.2.1.length≤m.length*2+2}) (fun y=> [(1,.int .i64 at_),(2,b0C d),(7,y.1.2.2),(8,.bool y.1.1),(10,.pointer (some ⟨q,0,none⟩)),(14,.slice (some ⟨b,o,none⟩) m.length cap),(15,.int .i64 m.length),(16,.int .i64 i)]) (fun y=> [u0C y.1.2.2 y.1.2.1,c0B H,pts q (.cells (lfC m[i]).toArray 259 (0,0)),R]) ?_ ?_
  ·refine go 1 ?_;cases a:dn
   ·refine go 11 ?_;refine a0O rfl (fun e=> ?_) (fun e=> ?_)
    ·have k:at_<m[i].1:=by simpa using e
     rw[a,if_pos ⟨rfl,k⟩,Bool.false_or,decide_eq_true k]at he;refine go 6 ?_;refine bl fun M=> ?_;refine(d0E Tsl.o Ttb.o Zr.o rfl rfl rfl gFd (f0I Tsl.o (by simp;rfl) (by simp) (by simp[Value.oneCell'])) (by simp only[maxLen];omega) (by omega) (fun C J=> ?_));refine go 2 ?_;rw[show out.flatMap lfC++ [Value.int .i64 at_,b0C d]=(out++ [(at_,d)]).flatMap lfC by simp,show out.length+1=(out++ [(at_,d)]).length by simp];refine go 4 ?_;exact me idh (⟨(true,out++ [(at_,d)],C),by(show k0L m at_ d=(out++ [(at_,d)])++_);rw[he];simp only[List.append_assoc],by(show(out++ [(at_,d)]).length≤_);rw[List.length_append,List.length_singleton];omega⟩)
    ·have k: ¬at_<m[i].1:=by simpa using e
     rw[a,if_neg (fun h=>k h.2),Bool.false_or,decide_eq_false k]at he;refine go 1 ?_;exact me idh (⟨(false,out,v),by(show k0L m at_ d=out++_);rw[he];simp only[List.nil_append],by(show out.length≤_);omega⟩)
   ·refine go 13 ?_;exact me idh (⟨(true,out,v),by(show k0L m at_ d=out++_);rw[he,a,if_neg (fun h=>by cases h.1),Bool.true_or];simp only[List.nil_append],by(show out.length≤_);omega⟩)
  rintro⟨⟨dn',out',v'⟩,he',hol'⟩;dsimp only at he' hol' ⊢;refine go 8 ?_;refine a0O rfl (fun g=> ?_) (fun g=> ?_)
  ·have n: ¬m[i].1=at_:=by simpa using g
   rw[if_neg n]at he';refine go 2 ?_;refine a0D (a0K (v:= #[.int .i64 m[i].1,b0C m[i].2]) Ag.o rfl (by simp) (by rfl)) ?_;refine bl fun N=> ?_;refine(d0E Tsl.o Ttb.o Zr.o rfl rfl rfl gFd (f0I Tsl.o (by simp;rfl) (by simp) (by simp[Value.oneCell'])) (by simp only[maxLen];omega) (by omega) (fun D K=> ?_));refine go 2 ?_;rw[show out'.flatMap lfC++ [Value.int .i64 m[i].1,b0C m[i].2]=(out'++ [m[i]]).flatMap lfC by simp,show out'.length+1=(out'++ [m[i]]).length by simp];refine go 5 ?_;exact rd idh (⟨(i+1,dn',out'++ [m[i]],D),l,by(show k0L m at_ d=(out'++ [m[i]])++_);rw[he'];simp only[List.append_assoc]⟩)
  ·have n:m[i].1=at_:=by simpa using g
   rw[if_pos n]at he';refine go 6 ?_;exact rd idh (⟨(i+1,dn',out',v'),l,by(show k0L m at_ d=out'++_);rw[he'];simp only[List.nil_append]⟩)
 ·obtain rfl:i=m.length:=by have:=of_decide_eq_false c;omega
  rw[List.drop_length,w1V]at he;refine go 9 ?_;refine a0O rfl (fun j=> ?_) (fun j=> ?_)
  ·have a:dn=false:=by simpa using j
   rw[a,if_neg (by simp)]at he;refine go 5 ?_;refine bl fun O=> ?_;refine(d0E Tsl.o Ttb.o Zr.o rfl rfl rfl gFd (f0I Tsl.o (by simp;rfl) (by simp) (by simp[Value.oneCell'])) (by simp only[maxLen];omega) (by omega) (fun E L=> ?_));refine go 2 ?_;rw[show out.flatMap lfC++ [Value.int .i64 at_,b0C d]=(out++ [(at_,d)]).flatMap lfC by simp,show out.length+1=(out++ [(at_,d)]).length by simp,←he];refine go 7 ?_;exact rE idh E trivial
  ·have a:dn=true:=by simpa using j
   rw[a,if_pos rfl,List.append_nil]at he;rw[←he];refine go 8 ?_;exact rE idh v trivial
theorem r1X (H:b0B) (mv:Value) (m:List Lf) (f u:Int) (C:b1C H mv m) (D:m.length≤100000):a0G prog 172 #[mv,.int .i64 f,.int .i64 u] [c0B H] (b0P (fun _:Value=>True) id (fun v=> [u0C v (h0G m f u),c0B H])):=by
 obtain⟨p,cap,rfl,B⟩:=d0W C;refine en func172 ntmps172 fun R w0=> ?_;refine go 7 ?_;refine bl fun q=> ?_;refine go 5 ?_;refine b0U (fun w h=>o0K 2 h) ?_;refine go 7 ?_;refine a0V (X:= {x:Nat×List Lf×Value // x.1≤m.length∧x.2.1=h0G (m.take x.1) f u}) (fun y=> [(1,.int .i64 f),(2,.int .i64 u),(7,y.1.2.2),(11,.slice p m.length cap),(12,.int .i64 m.length),(13,.int .i64 y.1.1)]) (fun y=> [u0C y.1.2.2 y.1.2.1,c0B H,R]) (fun y=>m.length-y.1.1) ⟨(0,[],.slice (some ⟨q,0,none⟩) 0 0),Nat.zero_le _,rfl⟩ gSu gSp ?_;rintro⟨⟨i,out,v⟩,hi,he⟩ m0 hm0
 try simp only at hm0
 try dsimp only
 simp only at hi he;have E:out.length≤m.length:=by rw[he];exact Nat.le_trans (List.length_filter_le _ _) (by rw[List.length_take];omega)
 refine go 6 ?_;refine a0O rfl (fun c=> ?_) (fun c=> ?_)
 ·have a:i<m.length:=by have:=of_decide_eq_true c;omega
  obtain⟨b,o,A,cur,F,I,l,j,t⟩:=g0V C (by omega);cases F
  have s:(cur.drop (o+i*2)).take 2=lfC m[i]:=(i0I j a).trans (p0J (f:=lfC) (size:=2) (fun _=>rfl) m a);have e:h0G (m.take (i+1)) f u=out++(if m[i].1<f∨u≤m[i].1 then [m[i]]else []):=by
   rw[List.take_succ,List.getElem?_eq_getElem a,he];unfold h0G;rw[List.filter_append];congr 1;simp only[Option.toList_some,List.filter_cons,List.filter_nil,decide_eq_true_eq]
  refine go 7 ?_;refine a0D (f0A (vs:=lfC m[i]) Ag.o rfl gFd l s rfl (by decide)) ?_;refine al fun G=> ?_;refine go 4 ?_;by_cases z:m[i].1<f
  ·refine go 16 ?_;refine a0D (a0K (v:= #[.int .i64 m[i].1,b0C m[i].2]) Ag.o rfl (by simp) (by rfl)) ?_;refine bl fun r=> ?_;refine(d0E Tsl.o Ttb.o Zr.o rfl rfl rfl gFd (f0I Tsl.o (by simp;rfl) (by simp) (by simp[Value.oneCell'])) (by simp only[maxLen];omega) (by omega) (fun g n=> ?_));refine go 2 ?_;rw[show out.flatMap lfC++ [Value.int .i64 m[i].1,b0C m[i].2]=(out++ [m[i]]).flatMap lfC by simp,show out.length+1=(out++ [m[i]]).length by simp];refine go 5 ?_;exact rd idh (⟨(i+1,out++ [m[i]],g),a,by rw[e,if_pos (.inl z)]⟩)
  ·refine go 13 ?_;refine a0O rfl (fun d=> ?_) (fun d=> ?_)
   ·have k:u≤m[i].1:=by simpa using d
    refine go 2 ?_;refine a0D (a0K (v:= #[.int .i64 m[i].1,b0C m[i].2]) Ag.o rfl (by simp) (by rfl)) ?_;refine bl fun r=> ?_;refine(d0E Tsl.o Ttb.o Zr.o rfl rfl rfl gFd (f0I Tsl.o (by simp;rfl) (by simp) (by simp[Value.oneCell'])) (by simp only[maxLen];omega) (by omega) (fun g n=> ?_));refine go 2 ?_;rw[show out.flatMap lfC++ [Value.int .i64 m[i].1,b0C m[i].2]=(out++ [m[i]]).flatMap lfC by simp,show out.length+1=(out++ [m[i]]).length by simp];refine go 5 ?_;exact rd idh (⟨(i+1,out++ [m[i]],g),a,by rw[e,if_pos (.inr k)]⟩)
   ·have k: ¬u≤m[i].1:=by simpa using d
    refine go 6 ?_;exact rd idh (⟨(i+1,out,v),a,by rw[e,if_neg (by omega),List.append_nil]⟩)
 ·obtain rfl:i=m.length:=by have:=of_decide_eq_false c;omega
  rw[List.take_of_length_le (Nat.le_refl _)]at he;rw[he];refine go 8 ?_;exact rE idh v trivial
structure Vx where
 v:Vp
 mv:Value
structure Rx where
 lv:Value
 l:List Vx
 next:Int
 bits:Nat
 epoch:Int
def er (c:Rx):Rp:= {l:=c.l.map (·.v),next:=c.next,bits:=c.bits,epoch:=c.epoch}
def a0S (x:Vx):List Value:= [.int .i64 x.v.id,.int .i64 x.v.parent,.bool x.v.only,.int .i64 x.v.size,.int .i64 x.v.born,x.mv]
def a1G (x:Vx):Value:= .agg (a0S x).toArray
def a0J (c:Rx):List Value:= [c.lv,.int .i64 c.next,.int .i64 c.bits,.int .i64 c.epoch]
def e0W (c:Rx):Value:= .agg (a0J c).toArray
abbrev v2W (H:b0B) (lv:Value) (l:List Vx):Prop:=i0V H 42 6 lv l.length (l.flatMap a0S)
abbrev n0K (H:b0B) (x:Vx):Prop:=b1C H x.mv x.v.m∧m0R x.v.m
structure c0Z (H:b0B) (c:Rx):Prop where
 vols:v2W H c.lv c.l
 maps: ∀x∈c.l,n0K H x
 few:c.l.length≤1000
theorem u0W (x:Vx):(a0S x).length=6:=rfl
theorem n0G (l:List Vx) {i:Nat} (hi:i<l.length):((l.flatMap a0S).drop (i*6)).take 6=a0S l[i]:=p0J u0W l hi
theorem n0K.more {H a:b0B} {x:Vx} (h:n0K H x) (b: ∀p∈H,p∈a):n0K a x:=⟨h.1.more b,h.2⟩
theorem c0Z.more {H a:b0B} {c:Rx} (h:c0Z H c) (b: ∀p∈H,p∈a):c0Z a c:=⟨h.vols.more b,fun x d=>(h.maps x d).more b,h.few⟩
theorem x0N {H:b0B} {l:List Vx} (h: ∀x∈l,n0K H x): ∀u∈l.flatMap a0S,u.oneCell'=true:=fun u hu=>by
 obtain⟨x,a,hu⟩:=List.mem_flatMap.1 hu;simp only[a0S,List.mem_cons,List.not_mem_nil,or_false]at hu;rcases hu with rfl|rfl|rfl|rfl|rfl|rfl
 ·rfl
 ·rfl
 ·rfl
 ·rfl
 ·rfl
 ·exact(h x a).1.one
theorem r2A {l:List Vp} {id:Int} {i:Nat} (hi:i<l.length) (hb: ∀j (h:j<l.length),j<i→l[j].id≠id) (h:l[i].id=id):c0Q l id=some i:=by
 unfold c0Q;rw[List.findIdx?_eq_some_iff_getElem];exact⟨hi,by simpa using h,fun j a=>by simpa using hb j (by omega) a⟩
theorem r2B {l:List Vp} {id:Int} (hb: ∀j (h:j<l.length),l[j].id≠id):c0Q l id=none:=by
 unfold c0Q;rw[List.findIdx?_eq_none_iff];intro x b;obtain⟨j,a,rfl⟩:=List.mem_iff_getElem.1 b;simpa using hb j a
theorem u0X {l:List Vp} {id:Int} {i:Nat} (h:c0Q l id=some i):i<l.length:=by
 unfold c0Q at h;rw[List.findIdx?_eq_some_iff_getElem]at h;exact h.1
abbrev w0F (b:Nat) (c:Rx):a0E:=pts b (.cells (a0J c).toArray 34 (0,0))
abbrev w1X (b:Nat) (x:Vx):a0E:=pts b (.cells (a0S x).toArray 42 (0,0))
theorem m1T (H:b0B) (c:Rx) (id:Int) (q:c0Z H c):a0G prog 101 #[e0W c,.int .i64 id] [c0B H] (a0T (.int .i64 (e1O (er c).l id)) [c0B H]):=by
 obtain⟨p,cap,m,z⟩:=d0W q.vols;have A:=q.few;have f:=q.vols;rw[m]at f;refine en func101 ntmps101 fun R w0=> ?_
 try simp only[e0W,a0J]
 rw[m];refine go 2 ?_;refine bx fun E=> ?_;refine go 13 ?_;refine a0V (X:= {i:Nat // i≤c.l.length∧ ∀j (h:j<c.l.length),j<i→c.l[j].v.id≠id}) (fun y=> [(1,.int .i64 id),(8,.slice p c.l.length cap),(9,.int .i64 c.l.length),(10,.int .i64 y.1)]) (fun y=> [c0B H,R]) (fun y=>c.l.length-y.1) ⟨0,Nat.zero_le _,fun j _ g=>absurd g (Nat.not_lt_zero _)⟩ gSu gSp ?_;rintro⟨i,hi,hz⟩ m0 hm0
 try simp only at hm0
 try dsimp only
 skip;refine go 6 ?_;refine a0O rfl (fun a=> ?_) (fun a=> ?_)
 ·have e:i<c.l.length:=by have:=of_decide_eq_true a;omega
  obtain⟨b,o,x,cur,D,C,n,k,B⟩:=g0V f (by omega);cases D
  have r:(cur.drop (o+i*6)).take 6=a0S c.l[i]:=(i0I k e).trans (n0G c.l e);refine go 8 ?_;refine a0D (f0A (vs:=a0S c.l[i]) Ag.o rfl gFd n r rfl (by decide)) ?_;refine al fun F=> ?_;refine go 1 ?_;refine a0M Sz.o rfl rfl rfl (fun u hu=>x0N q.maps u (List.mem_flatMap.2 ⟨c.l[i],List.getElem_mem e,by simpa using hu⟩)) (by simp[a0S,Value.cells]) (a0N (by simp[a0S,Value.cells])) ?_;refine go 10 ?_;refine a0O rfl (fun d=> ?_) (fun d=> ?_)
  ·have s:c.l[i].v.id=id:=by simpa using d
   refine go 6 ?_;exact rG (hu:=(by unfold e1O;rw[r2A (i:=i) (by simpa [er] using e) (fun j g t=>by simpa [er] using hz j (by simpa [er] using g) t) (by simpa [er] using s)]))
  ·have s: ¬c.l[i].v.id=id:=by simpa using d
   refine go 6 ?_;exact rd idh (⟨i+1,e,fun j w g=>if h:j=i then by subst h;exact s else hz j w (by omega)⟩)
 ·obtain rfl:i=c.l.length:=by have:=of_decide_eq_false a;omega
  refine go 7 ?_;exact rG (hu:=(by unfold e1O;rw[r2B (fun j g=>by simpa [er] using hz j (by simpa [er] using g) (by simpa [er] using g))]))
end Go.Proofs.Q

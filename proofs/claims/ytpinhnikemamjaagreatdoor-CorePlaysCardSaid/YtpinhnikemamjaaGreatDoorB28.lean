/- Part of the proof; no statement of its own. -/
import Derived.Test.YtpinhnikemamjaaGreatDoorB18
import Derived.Test.YtpinhnikemamjaaGreatDoorB24
import Derived.Test.YtpinhnikemamjaaGreatDoorB27
import Derived.Test.YtpinhnikemamjaaGreatDoorB10
import Derived.Test.YtpinhnikemamjaaGreatDoorB23
set_option linter.all false
set_option maxRecDepth 4000
set_option maxHeartbeats 4000000
attribute [local irreducible] Go.Sl.a0O Go.Sl.OW Go.Sl.CW Go.Sl.OS Go.Sl.OM Go.Sl.OMf Go.Sl.KM
namespace Go.Proofs.Q
open Go.Sl Go.Sb Tryz
section
theorem j2Q (X:BitVec 32):l0G X.toNat 4=Sha.be4 X:=by
 have h: ∀k:Nat,k≤24→UInt8.ofNat (X.toNat/2^k)=(⟨(X >>> k).setWidth 8⟩:UInt8):=fun k hk=>by
  apply UInt8.toNat_inj.1
  rw[UInt8.toNat_ofNat']
  show _=((X >>> k).setWidth 8).toNat
  rw[BitVec.toNat_setWidth,BitVec.toNat_ushiftRight,Nat.shiftRight_eq_div_pow]
 have h0:X.toNat=X.toNat/2^0:=by simp
 show [UInt8.ofNat (X.toNat/256^3),UInt8.ofNat (X.toNat/256^2),UInt8.ofNat (X.toNat/256^1),UInt8.ofNat (X.toNat/256^0)]=_
 rw[show(256:Nat)^3=2^24 from rfl,show(256:Nat)^2=2^16 from rfl,show(256:Nat)^1=2^8 from rfl,show(256:Nat)^0=2^0 from rfl,h 24 (by omega),h 16 (by omega),h 8 (by omega),h 0 (by omega)]
 unfold Sha.be4
 rw[show X >>> 0=X from BitVec.ushiftRight_zero X]
theorem j2R (n:Nat):l0G n 8=Sha.be8 n:=rfl
theorem j2S (w v:List Sha.W) (i:Nat):Sha.j0N w v (i+1)=Sha.rnd (Sha.j0N w v i) (Sha.at_ Sha.e0G i) (Sha.at_ w i):=rfl
theorem a2X (n j:Nat) (hj:j≤Sha.m0M n):((n+1+j)%64≠56)=(j<Sha.m0M n):=by
 unfold Sha.m0M at*
 apply propext
 constructor<;>intro h<;>omega
theorem o2T {h v:List Sha.W} {i:Nat} (hh:h.length=8) (hv:v.length=8) (hi:i<8):
 ((List.zipWith (· + ·) h v).take i++h.drop i).set i (Sha.at_ h i+Sha.at_ v i)=(List.zipWith (· + ·) h v).take (i+1)++h.drop (i+1):=by
 have hz:(List.zipWith (· + ·) h v).length=8:=by rw[List.length_zipWith,hh,hv];rfl
 have hl:((List.zipWith (· + ·) h v).take i).length=i:=by rw[List.length_take];omega
 rw[List.set_append_right _ _ (by omega),hl,Nat.sub_self,List.drop_eq_getElem_cons (by omega),List.set_cons_zero,List.take_succ,List.getElem?_eq_getElem (by omega)]
 simp only[List.getElem_zipWith,Option.toList_some,List.append_assoc,List.singleton_append]
 unfold Sha.at_
 rw[List.getD_eq_getElem?_getD,List.getD_eq_getElem?_getD,List.getElem?_eq_getElem (by omega),List.getElem?_eq_getElem (by omega)]
 rfl
theorem w2I {h v:List Sha.W} {i:Nat} (hh:h.length=8) (hv:v.length=8) (hi:i<8):nth (((List.zipWith (· + ·) h v).take i++h.drop i).map i32) i=some (i32 (Sha.at_ h i)):=by
 have hz:(List.zipWith (· + ·) h v).length=8:=by rw[List.length_zipWith,hh,hv];rfl
 have hl:((List.zipWith (· + ·) h v).take i).length=i:=by rw[List.length_take];omega
 rw[d0Y,List.getElem?_map,List.getElem?_append_right (by omega),hl,Nat.sub_self,List.getElem?_drop,Nat.add_zero,List.getElem?_eq_getElem (by omega)]
 unfold Sha.at_
 rw[List.getD_eq_getElem?_getD,List.getElem?_eq_getElem (by omega)];rfl
theorem o2U {v:List Sha.W} (h:v.length=8):v.map i32= [i32 (Sha.at_ v 0),i32 (Sha.at_ v 1),i32 (Sha.at_ v 2),i32 (Sha.at_ v 3),i32 (Sha.at_ v 4),i32 (Sha.at_ v 5),i32 (Sha.at_ v 6),i32 (Sha.at_ v 7)]:=by
 match v,h with
 | [a,b,c,d,e,f,g,i],_=>rfl
theorem e2L (n:Nat) (h:List Sha.W) (b:B):Sha.f0A (n+1) h b=Sha.f0A n (Sha.mix h (b.take 64)) (b.drop 64):=rfl
abbrev n64 (x:BitVec 32):Value:= .int .i64 (x.toNat:Int)
set_option maxRecDepth 8000
theorem i1X (s:B) (hs:s.length≤100000):a0F prog 188 #[b0B s] [] (a0T (b0B (Sha.sum s)) []):=by
 have hss:(bs s).size=s.length:=b0F s
 obtain⟨p,hp⟩: ∃p,p=Sha.l0T s:=⟨_,rfl⟩
 have hfl:Sha.m0M s.length<64:=by unfold Sha.m0M;omega
 have hpl:p.length=s.length+1+Sha.m0M s.length+8:=by rw[hp];simp[Sha.l0T,Sha.be8];omega
 have hp64:p.length%64=0:=by rw[hpl];unfold Sha.m0M;omega
 have hsl:Sha.start.length=8:=rfl
 obtain⟨tot,htot⟩: ∃tot,tot=p.length/64:=⟨_,rfl⟩
 have hsum:Sha.sum s=(Sha.f0A tot Sha.start p).flatMap Sha.be4:=by rw[htot,hp];rfl
 refine en func188 ntmps188 fun R w0=> ?_
 refine go 7 ?_
 refine bl fun b26=> ?_
 refine e0K (fun w h=>a1T (n:=8) (cs:=Sha.start.map i32) rfl (by simp[maxLen]) h) ?_
 refine go 6 ?_
 refine a0D (g0Y rfl rfl (by rw[b0F,show(⟨#[128]⟩:ByteArray).size=1 from rfl];omega)) ?_
 rw[show bs s++(⟨#[128]⟩:ByteArray)=bs (s++128::a0K 0)from(h0B s [128]).symm]
 refine go 5 ?_
 refine a0V (X:= {j:Nat // j≤Sha.m0M s.length}) (fun y=> [(0,b0B s),(3,.slice (some ⟨b26,0,none⟩) 8 8),(4,b0B (s++128::a0K y.1))]) (fun y=> [b0H 3 1 (.slice (some ⟨b26,0,none⟩) 8 8) 8 (Sha.start.map i32),R]) (fun y=>Sha.m0M s.length-y.1) ⟨0,Nat.zero_le _⟩ gSu gSp ?_
 rintro⟨j,hj⟩ m0 hm0
 try simp only at hm0
 try dsimp only
 skip
 refine go 5 ?_
 rw[b0F,show(s++128::a0K j).length=s.length+1+j by simp[a0K];omega]
 refine go 4 ?_
 refine a0P rfl (fun hb32=> ?_) (fun hb32=> ?_)
 ·have hjl:j<Sha.m0M s.length:=by
   rw[←a2X s.length j hj]
   have h:=hb32
   simp only[bne_iff_ne,ne_eq]at h
   omega
  refine go 5 ?_
  refine a0D (g0Y rfl rfl (by rw[b0F,show(⟨#[0]⟩:ByteArray).size=1 from rfl];simp[a0K];omega)) ?_
  rw[show bs (s++128::a0K j)++(⟨#[0]⟩:ByteArray)=bs (s++128::a0K (j+1)) by rw[show(⟨#[0]⟩:ByteArray)=bs [0]from rfl,←h0B,show s++128::a0K j++ [0]=s++128::a0K (j+1) by simp[a0K,List.replicate_succ']]]
  refine go 2 ?_
  exact rd idh (⟨j+1,hjl⟩)
 ·obtain rfl:j=Sha.m0M s.length:=by
   have h1: ¬(s.length+1+j)%64≠56:=by have h:=hb32;simp only[bne_eq_false_iff_eq]at h;omega
   rw[a2X s.length j hj]at h1
   omega
  refine go 7 ?_
  rw[hss]
  refine go 1 ?_
  rw[show(8:Int)*((s.length:Nat):Int)=((8*s.length:Nat):Int) by omega]
  refine cg 0 (g1Q (8*s.length) 8 (by omega) (by omega)) ?_
  refine a0D (g0Y rfl rfl (by rw[b0F,b0F];simp[a0K,l0G];omega)) ?_
  rw[show bs (s++128::a0K (Sha.m0M s.length))++bs (l0G (8*s.length) 8)=bs p by rw[←h0B,j2R,hp];unfold Sha.l0T a0K;simp]
  refine ce 5 (q1I) ?_
  rintro v5 _
  refine ns ?_
  simp only[id]
  refine go 10 ?_
  refine a0V (X:= {x:Nat×List Sha.W // x.1≤tot∧x.2.length=8∧Sha.f0A tot Sha.start p=Sha.f0A (tot-x.1) x.2 (p.drop (64*x.1))}) (fun y=> [(3,.slice (some ⟨b26,0,none⟩) 8 8),(4,b0B p),(5,v5),(6,.int .i64 (64*(y.1.1:Int)))]) (fun y=> [b0H 3 1 (.slice (some ⟨b26,0,none⟩) 8 8) 8 (y.1.2.map i32),b0H 3 1 v5 64 (Sha.e0G.map i32),R]) (fun y=>tot-y.1.1) ⟨(0,Sha.start),Nat.zero_le _,hsl,rfl⟩ gSu gSp ?_
  rintro⟨⟨m,h⟩,hm,hhl,hmx⟩ m2 hm2
  try simp only at hm2
  try dsimp only
  simp only at hm hhl hmx
  have hps:(bs p).size=p.length:=b0F p
  refine go 6 ?_
  rw[hps]
  refine go 3 ?_
  refine a0P rfl (fun hb45=> ?_) (fun hb45=> ?_)
  ·have hml:m<tot:=by have:=of_decide_eq_true hb45;omega
   obtain⟨blk,hblk⟩: ∃blk,blk=(p.drop (64*m)).take 64:=⟨_,rfl⟩
   have hbl:blk.length=64:=by rw[hblk,List.length_take,List.length_drop];omega
   obtain⟨ws,hws⟩: ∃ws,ws=Sha.k0G blk:=⟨_,rfl⟩
   have hwl:ws.length=64:=by rw[hws];exact Sha.o1L blk
   have hrl:Sha.e0G.length=64:=rfl
   refine go 10 ?_
   refine a0D (e1Y Tst.o rfl rfl rfl (by omega)) ?_
   rw[show(bs p).extract (64*(m:Int)).toNat (64*(m:Int)+64).toNat=bs blk by rw[k1O,hblk,List.drop_take];congr 2<;>omega]
   refine ce 0 (x1R blk hbl) ?_
   rintro v7 _
   refine ns ?_
   simp only[id]
   rw[←hws]
   refine go 7 ?_
   refine b0X (a0U (v:=n64 (Sha.at_ h 0)) Sc.o rfl gFd (i0C h 0 (by omega))) ?_
   refine go 2 ?_
   refine b0X (a0U (v:=n64 (Sha.at_ h 1)) Sc.o rfl gFd (i0C h 1 (by omega))) ?_
   refine go 2 ?_
   refine b0X (a0U (v:=n64 (Sha.at_ h 2)) Sc.o rfl gFd (i0C h 2 (by omega))) ?_
   refine go 2 ?_
   refine b0X (a0U (v:=n64 (Sha.at_ h 3)) Sc.o rfl gFd (i0C h 3 (by omega))) ?_
   refine go 2 ?_
   refine b0X (a0U (v:=n64 (Sha.at_ h 4)) Sc.o rfl gFd (i0C h 4 (by omega))) ?_
   refine go 2 ?_
   refine b0X (a0U (v:=n64 (Sha.at_ h 5)) Sc.o rfl gFd (i0C h 5 (by omega))) ?_
   refine go 2 ?_
   refine b0X (a0U (v:=n64 (Sha.at_ h 6)) Sc.o rfl gFd (i0C h 6 (by omega))) ?_
   refine go 2 ?_
   refine b0X (a0U (v:=n64 (Sha.at_ h 7)) Sc.o rfl gFd (i0C h 7 (by omega))) ?_
   refine go 17 ?_
   refine a0V (X:= {i:Nat // i≤64}) (fun y=> [(3,.slice (some ⟨b26,0,none⟩) 8 8),(4,b0B p),(5,v5),(6,.int .i64 (64*(m:Int))),(7,v7),(8,n64 (Sha.at_ (Sha.j0N ws h y.1) 0)),(9,n64 (Sha.at_ (Sha.j0N ws h y.1) 1)),(10,n64 (Sha.at_ (Sha.j0N ws h y.1) 2)),(11,n64 (Sha.at_ (Sha.j0N ws h y.1) 3)),(12,n64 (Sha.at_ (Sha.j0N ws h y.1) 4)),(13,n64 (Sha.at_ (Sha.j0N ws h y.1) 5)),(14,n64 (Sha.at_ (Sha.j0N ws h y.1) 6)),(15,n64 (Sha.at_ (Sha.j0N ws h y.1) 7)),(16,.int .i64 y.1)]) (fun y=> [b0H 3 1 (.slice (some ⟨b26,0,none⟩) 8 8) 8 (h.map i32),b0H 3 1 v5 64 (Sha.e0G.map i32),b0H 3 1 v7 64 (ws.map i32),R]) (fun y=>64-y.1) ⟨0,Nat.zero_le _⟩ gSu gSp ?_
   rintro⟨i,hi⟩ m4 hm4
   try simp only at hm4
   try dsimp only
   skip
   refine go 7 ?_
   refine a0P rfl (fun hb79=> ?_) (fun hb79=> ?_)
   ·have hil:i<64:=by have:=of_decide_eq_true hb79;omega
    have hst:=j2S ws h i
    obtain⟨va,hva⟩: ∃x,x=Sha.at_ (Sha.j0N ws h i) 0:=⟨_,rfl⟩
    obtain⟨vb,hvb⟩: ∃x,x=Sha.at_ (Sha.j0N ws h i) 1:=⟨_,rfl⟩
    obtain⟨vc,hvc⟩: ∃x,x=Sha.at_ (Sha.j0N ws h i) 2:=⟨_,rfl⟩
    obtain⟨vd,hvd⟩: ∃x,x=Sha.at_ (Sha.j0N ws h i) 3:=⟨_,rfl⟩
    obtain⟨ve,hve⟩: ∃x,x=Sha.at_ (Sha.j0N ws h i) 4:=⟨_,rfl⟩
    obtain⟨vf,hvf⟩: ∃x,x=Sha.at_ (Sha.j0N ws h i) 5:=⟨_,rfl⟩
    obtain⟨vg,hvg⟩: ∃x,x=Sha.at_ (Sha.j0N ws h i) 6:=⟨_,rfl⟩
    obtain⟨vz,hvz⟩: ∃x,x=Sha.at_ (Sha.j0N ws h i) 7:=⟨_,rfl⟩
    obtain⟨kk,hkk⟩: ∃x,x=Sha.at_ Sha.e0G i:=⟨_,rfl⟩
    obtain⟨ww,hww⟩: ∃x,x=Sha.at_ ws i:=⟨_,rfl⟩
    unfold Sha.rnd at hst
    rw[←hva,←hvb,←hvc,←hvd,←hve,←hvf,←hvg,←hvz,←hkk,←hww]at hst
    rw[←hva,←hvb,←hvc,←hvd,←hve,←hvf,←hvg,←hvz]
    have l1:=(ve &&& vf).isLt
    have l2:=(~~~ve &&& vg).isLt
    refine go 8 ?_
    refine a0D (d1B rfl rfl) ?_
    refine go 1 ?_
    refine a0D (v2L rfl) ?_
    refine go 1 ?_
    refine a0D (d1B rfl rfl) ?_
    refine a0D (q1W (m:=((ve &&& vf).toNat:Int)) (n:=((~~~ve &&& vg).toNat:Int)) rfl rfl (by omega)) ?_
    obtain⟨ch,hch⟩: ∃x,x=(ve &&& vf ^^^ ~~~ve &&& vg):=⟨_,rfl⟩
    rw[m2D,←hch]
    refine go 7 ?_
    refine a0D (d1B rfl rfl) ?_
    refine go 2 ?_
    refine a0D (d1B rfl rfl) ?_
    refine a0D (c2B rfl rfl) ?_
    refine go 2 ?_
    refine a0D (d1B rfl rfl) ?_
    refine a0D (c2B rfl rfl) ?_
    obtain⟨mj,hmj⟩: ∃x,x=(va &&& vb ^^^ va &&& vc ^^^ vb &&& vc):=⟨_,rfl⟩
    rw[v2M,←hmj]
    refine go 4 ?_
    refine i0Y (e:=3) (v:=v5) (show Fnd _ (b0H 3 1 v5 64 (Sha.e0G.map i32)) _ from gFd) (by omega) fun bk capk hvk hcapk=> ?_
    subst hvk
    refine i0Y (e:=3) (v:=v7) (show Fnd _ (b0H 3 1 v7 64 (ws.map i32)) _ from gFd) (by omega) fun bw capw hvw hcapw=> ?_
    subst hvw
    obtain⟨s1,hs1⟩: ∃x,x=Sha.t1 ve:=⟨_,rfl⟩
    have l3:=vz.isLt
    have l4:=s1.isLt
    have l5:=ch.isLt
    have l6:=kk.isLt
    have l7:=ww.isLt
    obtain⟨xx,hxx⟩: ∃x,x=vz+s1+ch+kk+ww:=⟨_,rfl⟩
    refine mx (.r 0 2 (.soft 3 (.soft 6 (.soft 10 (.r 12 4 (.r 17 4 (.hard 2 (.hard 4 (.soft 5 (.hard 7 (.r 8 2 (.soft 11 (.soft 16 (.soft 21 (.hard 22 (.soft 23 .done)))))))))))))))) [b0H 3 1 (.slice (some ⟨bk,0,none⟩) 64 capk) 64 (Sha.e0G.map i32),b0H 3 1 (.slice (some ⟨bw,0,none⟩) 64 capw) 64 (ws.map i32)] ?_
    refine go 8 ?_
    refine c0V rfl (a0U (v:=n64 kk) Sc.o rfl gFd (by rw[show 0+((i:Int)).toNat*1=i by omega,hkk];exact i0C Sha.e0G i (by omega))) ?_
    refine go 3 ?_
    refine c0V rfl (a0U (v:=n64 ww) Sc.o rfl gFd (by rw[show 0+((i:Int)).toNat*1=i by omega,hww];exact i0C ws i (by omega))) ?_
    refine cg 1 (l0C ve 6 (by omega) (by omega)) ?_
    refine cg 3 (l0C ve 11 (by omega) (by omega)) ?_
    refine go 2 ?_
    refine c0V rfl (u0Q rfl rfl) ?_
    refine cg 1 (l0C ve 25 (by omega) (by omega)) ?_
    refine go 2 ?_
    refine c0V rfl (show Sl.a0O _ _ _ _ (n64 s1)from hs1▸u0Q rfl rfl) ?_
    refine go 5 ?_
    refine b0U rfl Hb.o rfl (x0V _ xx (by omega) (by rw[hxx];simp only[BitVec.toNat_add];omega)) gSp ?_
    refine ns ?_
    refine go 6 ?_
    obtain⟨s0,hs0⟩: ∃x,x=Sha.t0 va:=⟨_,rfl⟩
    have m1:=s0.isLt
    have m2:=mj.isLt
    obtain⟨yy,hyy⟩: ∃x,x=s0+mj:=⟨_,rfl⟩
    refine cg 2 (l0C va 2 (by omega) (by omega)) ?_
    refine cg 1 (l0C va 13 (by omega) (by omega)) ?_
    refine a0D (u0Q rfl rfl) ?_
    refine cg 1 (l0C va 22 (by omega) (by omega)) ?_
    refine a0D (show Sl.a0O _ _ _ _ (n64 s0)from hs0▸u0Q rfl rfl) ?_
    refine go 2 ?_
    refine b0U rfl Hb.o rfl (x0V _ yy (by omega) (by rw[hyy];simp only[BitVec.toNat_add];omega)) gSp ?_
    refine ns ?_
    refine go 3 ?_
    have q1:=vd.isLt
    have q2:=xx.isLt
    have q3:=yy.isLt
    refine go 7 ?_
    refine b0U rfl Hb.o rfl (x0V _ (vd+xx) (by omega) (by simp only[BitVec.toNat_add];omega)) gSp ?_
    refine ns ?_
    refine go 6 ?_
    refine b0U rfl Hb.o rfl (x0V _ (xx+yy) (by omega) (by simp only[BitVec.toNat_add];omega)) gSp ?_
    refine ns ?_
    refine go 15 ?_
    have hnx:Sha.j0N ws h (i+1)= [xx+yy,va,vb,vc,vd+xx,ve,vf,vg]:=by
     rw[hst,hxx,hyy,hs1,hs0,hch,hmj]
     simp only[List.cons.injEq,true_and,and_true]
     refine⟨?_,?_⟩<;>(apply BitVec.eq_of_toNat_eq;simp only[BitVec.toNat_add];omega)
    refine c1V idh (⟨i+1,hil⟩) (by first|omega| (simp only;omega)) (by rw[hnx];exact gSu) gSp
   ·obtain rfl:i=64:=by have:=of_decide_eq_false hb79;omega
    obtain⟨v,hv⟩: ∃v,v=Sha.j0N ws h 64:=⟨_,rfl⟩
    have hvl:v.length=8:=by rw[hv];exact s1B ws h hhl 64
    rw[←hv]
    refine go 12 ?_
    refine bl fun b157=> ?_
    refine e0K (fun w h=>a1T (n:=8) (cs:= [n64 (Sha.at_ v 0),n64 (Sha.at_ v 1),n64 (Sha.at_ v 2),n64 (Sha.at_ v 3),n64 (Sha.at_ v 4),n64 (Sha.at_ v 5),n64 (Sha.at_ v 6),n64 (Sha.at_ v 7)]) rfl (by simp[maxLen]) h) ?_
    rw[show [n64 (Sha.at_ v 0),n64 (Sha.at_ v 1),n64 (Sha.at_ v 2),n64 (Sha.at_ v 3),n64 (Sha.at_ v 4),n64 (Sha.at_ v 5),n64 (Sha.at_ v 6),n64 (Sha.at_ v 7)]=v.map i32 from(o2U hvl).symm]
    refine go 5 ?_
    refine a0V (X:= {i:Nat // i≤8}) (fun y=> [(3,.slice (some ⟨b26,0,none⟩) 8 8),(4,b0B p),(5,v5),(6,.int .i64 (64*(m:Int))),(157,.slice (some ⟨b157,0,none⟩) 8 8),(158,.int .i64 8),(159,.int .i64 y.1)]) (fun y=> [b0H 3 1 (.slice (some ⟨b26,0,none⟩) 8 8) 8 (((List.zipWith (· + ·) h v).take y.1++h.drop y.1).map i32),b0H 3 1 (.slice (some ⟨b157,0,none⟩) 8 8) 8 (v.map i32),b0H 3 1 v5 64 (Sha.e0G.map i32),R]) (fun y=>8-y.1) ⟨0,Nat.zero_le _⟩ gSu gSp ?_
    rintro⟨i,hi⟩ m6 hm6
    try simp only at hm6
    try dsimp only
    skip
    refine go 6 ?_
    refine a0P rfl (fun hb160=> ?_) (fun hb160=> ?_)
    ·have hil:i<8:=by have:=of_decide_eq_true hb160;omega
     have r1:=(Sha.at_ h i).isLt
     have r2:=(Sha.at_ v i).isLt
     refine go 8 ?_
     refine a0D (a0U (v:=n64 (Sha.at_ v i)) Sc.o rfl (show Fnd _ (b0H 3 1 (.slice (some ⟨b157,0,none⟩) 8 8) 8 (v.map i32)) _ from gFd) (by rw[show 0+((i:Int)).toNat*1=i by omega];exact i0C v i (by omega))) ?_
     refine go 10 ?_
     refine a0D (a0U (v:=n64 (Sha.at_ h i)) Sc.o rfl (show Fnd _ (b0H 3 1 (.slice (some ⟨b26,0,none⟩) 8 8) 8 (((List.zipWith (· + ·) h v).take i++h.drop i).map i32)) _ from gFd) (by rw[show 0+((i:Int)).toNat*1=i by omega];exact w2I hhl hvl hil)) ?_
     refine go 2 ?_
     refine b0U rfl Hb.o rfl (x0V _ (Sha.at_ h i+Sha.at_ v i) (by omega) (by simp only[BitVec.toNat_add];omega)) gSp ?_
     refine ns ?_
     refine go 1 ?_
     refine c0D (xs':=((List.zipWith (· + ·) h v).take (i+1)++h.drop (i+1)).map i32) Sz.o rfl rfl rfl (show Fnd _ (b0H 3 1 (.slice (some ⟨b26,0,none⟩) 8 8) 8 (((List.zipWith (· + ·) h v).take i++h.drop i).map i32)) _ from gFd) (by rw[show 0+((i:Int)).toNat*1=i by omega];simp;omega) (by rw[show 0+((i:Int)).toNat*1=i by omega,←o2T hhl hvl hil,List.map_set];rfl) ?_
     refine go 6 ?_
     exact rd idh (⟨i+1,hil⟩)
    ·obtain rfl:i=8:=by have:=of_decide_eq_false hb160;omega
     have hmix:(List.zipWith (· + ·) h v).take 8++h.drop 8=Sha.mix h blk:=by
      rw[List.take_of_length_le (by rw[List.length_zipWith];omega),List.drop_of_length_le (by omega),List.append_nil,hv,hws];rfl
     rw[hmix]
     refine go 5 ?_
     rw[show 64*(m:Int)+64=64*((m+1:Nat):Int) by omega]
     refine go 2 ?_
     exact rd idh (⟨(m+1,Sha.mix h blk),hml,by(show(Sha.mix h blk).length=8);exact z1I hhl blk,by(show _=Sha.f0A (tot- (m+1)) (Sha.mix h blk) (p.drop (64*(m+1))));rw[hmx,show tot-m=tot- (m+1)+1 by omega,e2L,←hblk,List.drop_drop];rfl⟩)
  ·obtain rfl:m=tot:=by have:=of_decide_eq_false hb45;omega
   have hfin:Sha.f0A m Sha.start p=h:=by rw[hmx,Nat.sub_self];rfl
   rw[hfin]at hsum
   refine go 16 ?_
   refine a0V (X:= {i:Nat // i≤8}) (fun y=> [(23,b0B ((h.take y.1).flatMap Sha.be4)),(175,.slice (some ⟨b26,0,none⟩) 8 8),(176,.int .i64 8),(177,.int .i64 y.1)]) (fun y=> [b0H 3 1 (.slice (some ⟨b26,0,none⟩) 8 8) 8 (h.map i32),R]) (fun y=>8-y.1) ⟨0,Nat.zero_le _⟩ gSu gSp ?_
   rintro⟨i,hi⟩ m8 hm8
   try simp only at hm8
   try dsimp only
   skip
   refine go 6 ?_
   refine a0P rfl (fun hb178=> ?_) (fun hb178=> ?_)
   ·have hil:i<8:=by have:=of_decide_eq_true hb178;omega
    have r1:=(Sha.at_ h i).isLt
    have hfl4:((h.take i).flatMap Sha.be4).length≤32:=by
     have: ∀l:List Sha.W,(l.flatMap Sha.be4).length=4*l.length:=fun l=>by
      induction l with
      |nil=>rfl
      |cons x l ih=>rw[List.flatMap_cons,List.length_append,ih,List.length_cons];show 4+_=_;omega
     rw[this,List.length_take];omega
    refine go 7 ?_
    refine a0D (a0U (v:=n64 (Sha.at_ h i)) Sc.o rfl gFd (by rw[show 0+((i:Int)).toNat*1=i by omega];exact i0C h i (by omega))) ?_
    refine cg 6 (g1Q (Sha.at_ h i).toNat 4 (by omega) (by omega)) ?_
    refine a0D (g0Y rfl rfl (by rw[b0F,b0F,show(l0G (Sha.at_ h i).toNat 4).length=4 by simp[l0G]];omega)) ?_
    rw[←h0B,j2Q,show(h.take i).flatMap Sha.be4++Sha.be4 (Sha.at_ h i)=(h.take (i+1)).flatMap Sha.be4 by rw[List.take_succ,List.getElem?_eq_getElem (by omega),List.flatMap_append];simp[Sha.at_,List.getD_eq_getElem?_getD,List.getElem?_eq_getElem (show i<h.length by omega)]]
    refine go 7 ?_
    exact rd idh (⟨i+1,hil⟩)
   ·obtain rfl:i=8:=by have:=of_decide_eq_false hb178;omega
    rw[List.take_of_length_le (by omega),←hsum]
    refine go 8 ?_
    exact rG
end
def hb (x k:Nat):Nat→Nat
 |0=>0
 |b+1=>2*hb x k b+(if k≤b then 0 else x/2^(7-b)%2)
theorem e2M (x k:Nat): ∀b,hb x k b<2^b
 |0=>Nat.one_pos
 |b+1=>by
  have:=e2M x k b
  unfold hb
  rw[Nat.pow_succ]
  split<;>omega
theorem t2W: ∀k,k<8→ ∀x,x<256→hb x k 8=(UInt8.ofNat x &&& UInt8.ofNat (255-255/2^k)).toNat:=by decide+kernel
theorem w2J: ∀x,x<256→hb x 8 8=x:=by decide+kernel
theorem q2M (x k:Nat) (h:8≤k): ∀b,b≤8→hb x k b=hb x 8 b
 |0,_=>rfl
 |b+1,hb8=>by
  unfold hb
  rw[q2M x k h b (by omega),if_neg (by omega),if_neg (by omega)]
theorem j2T (n i:Nat) (c:UInt8):(UInt8.ofNat (hb c.toNat (n-8*i) 8))=if n<8*i+8 then c &&& UInt8.ofNat (255-255/2^(n-8*i))else c:=by
 have hc:=c.toNat_lt
 apply UInt8.toNat_inj.1
 rw[UInt8.toNat_ofNat',Nat.mod_eq_of_lt (e2M _ _ 8)]
 split
 ·rw[t2W _ (by omega) _ (by omega),UInt8.ofNat_toNat]
 ·rw[q2M _ _ (by omega) 8 (by omega),w2J _ (by omega)]
theorem j2U (n:Nat) (l:B) (i:Nat) (h:i<l.length):(c0W n l).take (i+1)=(c0W n l).take i++ [UInt8.ofNat (hb l[i].toNat (n-8*i) 8)]:=by
 have hl:(c0W n l).length=l.length:=by simp[c0W]
 rw[List.take_succ,List.getElem?_eq_getElem (by omega),j2T]
 simp[c0W]
theorem e2N (l:B) (n:Nat) (hl:l.length≤10000) (hn:n≤256):a0F prog 261 #[b0B l,.int .i64 n] [] (a0T (b0B (c0W n l)) []):=by
 have hbl:(c0W n l).length=l.length:=by simp[c0W]
 have hls:(bs l).size=l.length:=b0F l
 refine en func261 ntmps261 fun R w0=> ?_
 refine go 7 ?_
 refine bl fun b10=> ?_
 refine go 5 ?_
 refine b0V (fun w h=>n0U 1 h) ?_
 refine go 5 ?_
 refine a0V (X:= {x:Nat×Value // x.1≤l.length}) (fun y=> [(0,b0B l),(1,.int .i64 n),(5,y.1.2),(6,.int .i64 y.1.1)]) (fun y=> [b0H 5 1 y.1.2 y.1.1 (((c0W n l).take y.1.1).map a0Q),R]) (fun y=>l.length-y.1.1) ⟨(0,.slice (some ⟨b10,0,none⟩) 0 0),Nat.zero_le _⟩ gSu gSp ?_
 rintro⟨⟨i,v⟩,hi⟩ m0 hm0
 try simp only at hm0
 try dsimp only
 simp only at hi
 refine go 6 ?_
 rw[hls]
 refine go 3 ?_
 refine a0P rfl (fun hb14=> ?_) (fun hb14=> ?_)
 ·have hil:i<l.length:=by have:=of_decide_eq_true hb14;omega
  refine go 16 ?_
  refine a0V (X:= {b:Nat // b≤8}) (fun y=> [(0,b0B l),(1,.int .i64 n),(5,v),(6,.int .i64 i),(7,.int .i64 (hb l[i].toNat (n-8*i) y.1)),(8,.int .i64 y.1)]) (fun y=> [b0H 5 1 v i (((c0W n l).take i).map a0Q),R]) (fun y=>8-y.1) ⟨0,by decide⟩ gSu gSp ?_
  rintro⟨b,hb8⟩ m2 hm2
  try simp only at hm2
  try dsimp only
  skip
  refine go 7 ?_
  refine a0P rfl (fun hb18=> ?_) (fun hb18=> ?_)
  ·have hbl8:b<8:=by have:=of_decide_eq_true hb18;omega
   have hc:=(l[i]).toNat_lt
   have hhb:=e2M l[i].toNat (n-8*i) b
   have hhb2:(2:Nat)^b≤2^7:=Nat.pow_le_pow_right (by decide) (by omega)
   have hu:(bs l).data.toList[i]? =some l[i]:=by rw[l0M,List.getElem?_eq_getElem hil]
   have hsh:((l[i].toNat:Nat):Int)/2^((7:Int)- (b:Int)).toNat=((l[i].toNat/2^(7-b):Nat):Int):=by rw[show((7:Int)- (b:Int)).toNat=7-b by omega];norm_cast
   refine go 8 ?_
   refine a0D (c1P Tst.o rfl rfl (by omega) (u:=l[i]) hu) ?_
   refine go 1 ?_
   rw[g1R]
   refine go 2 ?_
   refine a0D (s0N rfl rfl (by first|decide| (simp only[IntKind.bits];omega))) ?_
   rw[hsh]
   refine a0D (j1J rfl rfl ⟨Int.natCast_nonneg _,by decide⟩) ?_
   refine go 3 ?_
   refine i0P (X:=Unit) (fun _=> [(0,b0B l),(1,.int .i64 n),(5,v),(6,.int .i64 i),(7,.int .i64 (hb l[i].toNat (n-8*i) b)),(8,.int .i64 b),(9,.int .i64 ((if n-8*i≤b then 0 else l[i].toNat/2^(7-b)%2:Nat):Int))]) (fun _=> [b0H 5 1 v i (((c0W n l).take i).map a0Q),R]) ?_ ?_
   ·refine go 10 ?_
    refine a0P rfl (fun hb34=> ?_) (fun hb34=> ?_)
    ·have hle:n-8*i≤b:=by have h:=hb34;simp only[decide_eq_true_eq]at h;omega
     rw[if_pos hle]
     refine go 3 ?_
     exact me idh (())
    ·have hle: ¬n-8*i≤b:=by have h:=hb34;simp only[decide_eq_false_iff_not]at h;omega
     rw[if_neg hle]
     refine go 1 ?_
     exact me idh (())
   rintro _
   obtain⟨bt,hbt⟩: ∃bt:Nat,bt=if n-8*i≤b then 0 else l[i].toNat/2^(7-b)%2:=⟨_,rfl⟩
   have hbt2:bt≤1:=by rw[hbt];split<;>omega
   rw[←hbt]
   refine go 5 ?_
   rw[show(2:Int)*((hb l[i].toNat (n-8*i) b:Nat):Int)+(bt:Int)=((hb l[i].toNat (n-8*i) (b+1):Nat):Int) by rw[hbt];show _=((2*hb l[i].toNat (n-8*i) b+_:Nat):Int);omega]
   refine go 8 ?_
   exact rd idh (⟨b+1,hbl8⟩)
  ·obtain rfl:b=8:=by have:=of_decide_eq_false hb18;omega
   obtain⟨u,hu⟩: ∃u,u=UInt8.ofNat (hb l[i].toNat (n-8*i) 8):=⟨_,rfl⟩
   have hwr:IntKind.u8.wrap ((hb l[i].toNat (n-8*i) 8:Nat):Int)=(u.toNat:Int):=by rw[hu,IntKind.wrap_u8,UInt8.toNat_ofNat'];omega
   refine go 6 ?_
   rw[hwr]
   refine bl fun b42=> ?_
   refine(c0Z Tsl.o Ttb.o Zr.o rfl rfl rfl gFd (e0Z Tsl.o (by simp;rfl) (by simp) (by simp[Value.oneCell'])) (by simp only[maxLen];omega) (by omega) (fun v43 hv43=> ?_))
   refine go 2 ?_
   rw[show((c0W n l).take i).map a0Q++ [Value.int .u8 (u.toNat:Int)]=((c0W n l).take (i+1)).map a0Q by rw[j2U n l i hil,←hu];simp[a0Q]]
   refine go 6 ?_
   exact rd idh (⟨(i+1,v43),hil⟩)
 ·obtain rfl:i=l.length:=by have:=of_decide_eq_false hb14;omega
  rw[List.take_of_length_le (by omega)]
  refine go 5 ?_
  refine a0D (y0B Tsl.o Tst.o Tby.o rfl gFd) ?_
  refine go 3 ?_
  exact rG
theorem v1C (l:B) (i:Nat) (h:i<l.length):a0R (l.take (i+1))=(a0R (l.take i)&&l[i] == 0):=by
 rw[List.take_succ,List.getElem?_eq_getElem h]
 unfold a0R
 rw[List.all_append];simp
theorem v0Y (l:B) (hl:l.length≤1000000):a0F prog 173 #[b0B l] [] (a0T (.bool (a0R l)) []):=by
 have hls:(bs l).size=l.length:=b0F l
 refine en func173 ntmps173 fun R w0=> ?_
 refine go 12 ?_
 refine a0V (X:= {i:Nat // i≤l.length∧a0R (l.take i)=true}) (fun y=> [(0,b0B l),(3,.int .i64 y.1)]) (fun y=> [R]) (fun y=>l.length-y.1) ⟨0,Nat.zero_le _,rfl⟩ gSu gSp ?_
 rintro⟨i,hi,hz⟩ m0 hm0
 try simp only at hm0
 try dsimp only
 skip
 refine go 6 ?_
 rw[hls]
 refine go 3 ?_
 refine a0P rfl (fun hb7=> ?_) (fun hb7=> ?_)
 ·have hil:i<l.length:=by have:=of_decide_eq_true hb7;omega
  have hu:(bs l).data.toList[i]? =some l[i]:=by rw[l0M,List.getElem?_eq_getElem hil]
  have hst:=v1C l i hil
  refine go 8 ?_
  refine a0D (c1P Tst.o rfl rfl (by omega) (u:=l[i]) hu) ?_
  refine go 3 ?_
  refine a0P rfl (fun hb13=> ?_) (fun hb13=> ?_)
  ·have hne: ¬l[i]=0:=by intro h;rw[h]at hb13;exact absurd hb13 (by decide)
   have hf:a0R l=false:=by
    cases ha:a0R l with
    |false=>rfl
    |true=>
     unfold a0R at ha
     rw[List.all_eq_true]at ha
     exact absurd (by simpa using ha l[i] (List.getElem_mem hil)) hne
   refine go 5 ?_
   exact rG (hu:=(by rw[hf]))
  ·have heq:l[i]=0:=UInt8.toNat_inj.1 (by have h:=hb13;simp only[bne_eq_false_iff_eq]at h;have e:(0:UInt8).toNat=0:=rfl;omega)
   refine go 7 ?_
   exact rd idh (⟨i+1,hil,by rw[hst,hz,heq];rfl⟩)
 ·obtain rfl:i=l.length:=by have:=of_decide_eq_false hb7;omega
  rw[List.take_of_length_le (by omega)]at hz
  refine go 7 ?_
  exact rG (hu:=(by rw[hz]))
abbrev x2Y (n:Int):Value:= .agg #[.slice none 0 0,.int .i64 n]
theorem l1K (l:B) (n:Nat) (hl:l.length≤100000) (hn:n≤256):a0F prog 208 #[x2Y n,b0B l] [] (a0T (b0B (key n (Sha.sum l))) []):=by
 refine en func208 ntmps208 fun R w0=> ?_
 refine go 2 ?_
 refine bx fun b2=> ?_
 refine go 4 ?_
 refine mx (.soft 0 (.r 2 2 (.hard 1 (.hard 4 (.soft 5 .done))))) [pts b2 (.cells #[.slice none 0 0,.int .i64 n] 277 (0,0))] ?_
 refine cg 4 (i1X l hl) ?_
 refine cg 3 (e2N (Sha.sum l) n (by rw[p0L];omega) hn) ?_
 refine go 5 ?_
 exact rG
theorem x1Z (n:Nat) (hn:n≤10000):a0F prog 171 #[.int .i64 n] [] (a0T (b0B (a0K (64*n))) []):=by
 refine en func171 ntmps171 fun R w0=> ?_
 refine go 17 ?_
 refine a0V (X:= {j:Nat // j≤64*n}) (fun y=> [(0,.int .i64 n),(3,b0B (a0K y.1)),(4,.int .i64 y.1)]) (fun y=> [R]) (fun y=>64*n-y.1) ⟨0,Nat.zero_le _⟩ gSu gSp ?_
 rintro⟨j,hj⟩ m0 hm0
 try simp only at hm0
 try dsimp only
 skip
 refine go 9 ?_
 refine a0P rfl (fun hb8=> ?_) (fun hb8=> ?_)
 ·have hjl:j<64*n:=by have:=of_decide_eq_true hb8;omega
  refine go 6 ?_
  refine a0D (g0Y rfl rfl (by rw[b0F,show(⟨#[0]⟩:ByteArray).size=1 from rfl];simp[a0K];omega)) ?_
  rw[show bs (a0K j)++(⟨#[0]⟩:ByteArray)=bs (a0K (j+1)) by rw[show(⟨#[0]⟩:ByteArray)=bs [0]from rfl,←h0B,show a0K j++ [0]=a0K (j+1) by simp[a0K,List.replicate_succ']]]
  refine go 8 ?_
  exact rd idh (⟨j+1,hjl⟩)
 ·obtain rfl:j=64*n:=by have:=of_decide_eq_false hb8;omega
  refine go 8 ?_
  exact rG
abbrev lfC (x:Lf):List Value:= [.int .i64 x.1,b0B x.2]
abbrev a1D (H:b0A) (mv:Value) (m:List Lf):Prop:=i0E H 259 2 mv m.length (m.flatMap lfC)
theorem a2Y {at_:Int} : ∀ {m:List Lf} {i:Nat} (hi:i<m.length) (_: ∀j (h:j<i),m[j].1≠at_),m[i].1=at_→f0M at_ m=m[i].2
 | (a,d)::r,0,hi,_,h=>by unfold f0M;rw[if_pos (show a=at_ from h)];rfl
 | (a,d)::r,i+1,hi,hb,h=>by
  unfold f0M
  rw[if_neg (show ¬a=at_ from hb 0 (by omega))]
  exact a2Y (m:=r) (i:=i) (by simpa using hi) (fun j hj=>hb (j+1) (by omega)) h
theorem a2Z {at_:Int} : ∀ {m:List Lf} (_: ∀j (h:j<m.length),m[j].1≠at_),f0M at_ m=a0K 256
 | [],_=>rfl
 | (a,d)::r,hb=>by
  unfold f0M
  rw[if_neg (show ¬a=at_ from hb 0 (by simp))]
  exact a2Z (m:=r) (fun j hj=>hb (j+1) (by simpa using hj))
theorem g1V (H:b0A) (mv:Value) (m:List Lf) (at_:Int) (hm:a1D H mv m) (hml:m.length≤1000000):a0F prog 145 #[mv,.int .i64 at_] [b0Z H] (a0T (b0B (f0M at_ m)) [b0Z H]):=by
 obtain⟨p,cap,rfl,hcap⟩:=d0Q hm
 refine en func145 ntmps145 fun R w0=> ?_
 refine go 14 ?_
 refine a0V (X:= {i:Nat // i≤m.length∧ ∀j (h:j<m.length),j<i→m[j].1≠at_}) (fun y=> [(1,.int .i64 at_),(9,.slice p m.length cap),(10,.int .i64 m.length),(11,.int .i64 y.1)]) (fun y=> [b0Z H,R]) (fun y=>m.length-y.1) ⟨0,Nat.zero_le _,fun j _ hj=>absurd hj (Nat.not_lt_zero _)⟩ gSu gSp ?_
 rintro⟨i,hi,hz⟩ m0 hm0
 try simp only at hm0
 try dsimp only
 skip
 refine go 6 ?_
 refine a0P rfl (fun hb12=> ?_) (fun hb12=> ?_)
 ·have hil:i<m.length:=by have:=of_decide_eq_true hb12;omega
  obtain⟨b,o,cap',cur,hv,hc,hmem,hcut,hlen⟩:=g0G hm (by omega)
  cases hv
  have hcu:(cur.drop (o+i*2)).take 2=lfC m[i]:=(h0R hcut hil).trans (q0E (f:=lfC) (size:=2) (fun _=>rfl) m hil)
  refine go 7 ?_
  refine a0D (e0U (vs:=lfC m[i]) Ag.o rfl gFd hmem hcu rfl (by decide)) ?_
  refine al fun b6=> ?_
  refine go 11 ?_
  refine a0P rfl (fun hb18=> ?_) (fun hb18=> ?_)
  ·have he:m[i].1=at_:=by simpa using hb18
   refine go 7 ?_
   exact rG (hu:=(by rw[a2Y hil (fun j hj=>hz j (by omega) hj) he]))
  ·have he: ¬m[i].1=at_:=by simpa using hb18
   refine go 6 ?_
   exact rd idh (⟨i+1,hil,fun j hjl hj=>if h:j=i then by subst h;exact he else hz j hjl (by omega)⟩)
 ·obtain rfl:i=m.length:=by have:=of_decide_eq_false hb12;omega
  rw[a2Z (fun j hj=>hz j hj hj)]
  refine go 14 ?_
  refine a0V (X:= {j:Nat // j≤256}) (fun y=> [(7,b0B (a0K y.1)),(8,.int .i64 y.1)]) (fun y=> [b0Z H,R]) (fun y=>256-y.1) ⟨0,Nat.zero_le _⟩ gSu gSp ?_
  rintro⟨j,hj⟩ m2 hm2
  try simp only at hm2
  try dsimp only
  skip
  refine go 7 ?_
  refine a0P rfl (fun hb23=> ?_) (fun hb23=> ?_)
  ·have hjl:j<256:=by have:=of_decide_eq_true hb23;omega
   refine go 6 ?_
   refine a0D (g0Y rfl rfl (by rw[b0F,show(⟨#[0]⟩:ByteArray).size=1 from rfl];simp[a0K];omega)) ?_
   rw[show bs (a0K j)++(⟨#[0]⟩:ByteArray)=bs (a0K (j+1)) by rw[show(⟨#[0]⟩:ByteArray)=bs [0]from rfl,←h0B,show a0K j++ [0]=a0K (j+1) by simp[a0K,List.replicate_succ']]]
   refine go 8 ?_
   exact rd idh (⟨j+1,hjl⟩)
  ·obtain rfl:j=256:=by have:=of_decide_eq_false hb23;omega
   refine go 8 ?_
   exact rG
theorem v1D (at_:Int) (d:B) (done:Bool):o0V at_ d done []=if done then []else [(at_,d)]:=rfl
theorem p1W (at_:Int) (d:B) (done:Bool) (x:Lf) (r:List Lf):o0V at_ d done (x::r)=(if done=false∧at_<x.1 then [(at_,d)]else [])++(if x.1=at_ then []else [x])++o0V at_ d (done || decide (at_<x.1)) r:=by cases x;rfl
theorem v1E (at_:Int) (d:B): ∀(m:List Lf) (done:Bool),(o0V at_ d done m).length≤m.length*2+1
 | [],done=>by rw[v1D];split<;>simp
 |x::r,done=>by
  rw[p1W]
  have:=v1E at_ d r (done || decide (at_<x.1))
  simp only[List.length_append,List.length_cons]
  have h1:(if done=false∧at_<x.1 then [(at_,d)]else []).length≤1:=by split<;>simp
  have h2:(if x.1=at_ then []else [x]).length≤1:=by split<;>simp
  omega
abbrev t0I (v:Value) (out:List Lf):a0C:=b0H 259 2 v out.length (out.flatMap lfC)
theorem y1A (H:b0A) (mv:Value) (m:List Lf) (at_:Int) (d:B) (hm:a1D H mv m) (hml:m.length≤100000) (hd:d.length≤100000):a0F prog 175 #[mv,.int .i64 at_,b0B d] [b0Z H] (b0N (fun _:Value=>True) id (fun v=> [t0I v (j0X m at_ d),b0Z H])):=by
 obtain⟨p,cap,rfl,hcap⟩:=d0Q hm
 have hlen:=v1E at_ d m (a0R d)
 refine en func175 ntmps175 fun R w0=> ?_
 refine go 7 ?_
 refine bl fun b11=> ?_
 refine go 4 ?_
 refine b0V (fun w h=>n0U 2 h) ?_
 refine cg 2 (v0Y d (by omega)) ?_
 refine go 12 ?_
 refine a0V (X:= {x:Nat×Bool×List Lf×Value // x.1≤m.length∧j0X m at_ d=x.2.2.1++o0V at_ d x.2.1 (m.drop x.1)}) (fun y=> [(1,.int .i64 at_),(2,b0B d),(7,y.1.2.2.2),(8,.bool y.1.2.1),(14,.slice p m.length cap),(15,.int .i64 m.length),(16,.int .i64 y.1.1)]) (fun y=> [t0I y.1.2.2.2 y.1.2.2.1,b0Z H,R]) (fun y=>m.length-y.1.1) ⟨(0,a0R d,[],.slice (some ⟨b11,0,none⟩) 0 0),Nat.zero_le _,rfl⟩ gSu gSp ?_
 rintro⟨⟨i,dn,out,v⟩,hi,he⟩ m0 hm0
 try simp only at hm0
 try dsimp only
 simp only at hi he
 have hol:out.length≤m.length*2+1:=by
  have h1:=congrArg List.length he
  have h2:(j0X m at_ d).length≤m.length*2+1:=hlen
  rw[List.length_append]at h1
  omega
 refine go 6 ?_
 refine a0P rfl (fun hb17=> ?_) (fun hb17=> ?_)
 ·have hil:i<m.length:=by have:=of_decide_eq_true hb17;omega
  obtain⟨b,o,cap',cur,hv,hc,hmem,hcut,hlen2⟩:=g0G hm (by omega)
  cases hv
  have hcu:(cur.drop (o+i*2)).take 2=lfC m[i]:=(h0R hcut hil).trans (q0E (f:=lfC) (size:=2) (fun _=>rfl) m hil)
  rw[List.drop_eq_getElem_cons hil,p1W]at he
  refine go 7 ?_
  refine a0D (e0U (vs:=lfC m[i]) Ag.o rfl gFd hmem hcu rfl (by decide)) ?_
  refine al fun b10=> ?_
  refine go 3 ?_
  refine i0P (X:= {x:Bool×List Lf×Value // j0X m at_ d=x.2.1++((if m[i].1=at_ then []else [m[i]])++o0V at_ d x.1 (m.drop (i+1)))∧x.2.1.length≤m.length*2+2}) (fun y=> [(1,.int .i64 at_),(2,b0B d),(7,y.1.2.2),(8,.bool y.1.1),(10,.pointer (some ⟨b10,0,none⟩)),(14,.slice (some ⟨b,o,none⟩) m.length cap),(15,.int .i64 m.length),(16,.int .i64 i)]) (fun y=> [t0I y.1.2.2 y.1.2.1,b0Z H,pts b10 (.cells (lfC m[i]).toArray 259 (0,0)),R]) ?_ ?_
  ·refine go 1 ?_
   cases hdn:dn
   ·refine go 11 ?_
    refine a0P rfl (fun hb27=> ?_) (fun hb27=> ?_)
    ·have hgt:at_<m[i].1:=by simpa using hb27
     rw[hdn,if_pos ⟨rfl,hgt⟩,Bool.false_or,decide_eq_true hgt]at he
     refine go 6 ?_
     refine bl fun b32=> ?_
     refine(c0Z Tsl.o Ttb.o Zr.o rfl rfl rfl gFd (e0Z Tsl.o (by simp;rfl) (by simp) (by simp[Value.oneCell'])) (by simp only[maxLen];omega) (by omega) (fun v33 hv33=> ?_))
     refine go 2 ?_
     rw[show out.flatMap lfC++ [Value.int .i64 at_,b0B d]=(out++ [(at_,d)]).flatMap lfC by simp,show out.length+1=(out++ [(at_,d)]).length by simp]
     refine go 4 ?_
     exact me idh (⟨(true,out++ [(at_,d)],v33),by(show j0X m at_ d=(out++ [(at_,d)])++_);rw[he];simp only[List.append_assoc],by(show(out++ [(at_,d)]).length≤_);rw[List.length_append,List.length_singleton];omega⟩)
    ·have hgt: ¬at_<m[i].1:=by simpa using hb27
     rw[hdn,if_neg (fun h=>hgt h.2),Bool.false_or,decide_eq_false hgt]at he
     refine go 1 ?_
     exact me idh (⟨(false,out,v),by(show j0X m at_ d=out++_);rw[he];simp only[List.nil_append],by(show out.length≤_);omega⟩)
   ·refine go 13 ?_
    exact me idh (⟨(true,out,v),by(show j0X m at_ d=out++_);rw[he,hdn,if_neg (fun h=>by cases h.1),Bool.true_or];simp only[List.nil_append],by(show out.length≤_);omega⟩)
  rintro⟨⟨dn',out',v'⟩,he',hol'⟩
  dsimp only at he' hol' ⊢
  refine go 8 ?_
  refine a0P rfl (fun hb37=> ?_) (fun hb37=> ?_)
  ·have hne: ¬m[i].1=at_:=by simpa using hb37
   rw[if_neg hne]at he'
   refine go 2 ?_
   refine a0D (a0L (v:= #[.int .i64 m[i].1,b0B m[i].2]) Ag.o rfl (by simp) (by rfl)) ?_
   refine bl fun b40=> ?_
   refine(c0Z Tsl.o Ttb.o Zr.o rfl rfl rfl gFd (e0Z Tsl.o (by simp;rfl) (by simp) (by simp[Value.oneCell'])) (by simp only[maxLen];omega) (by omega) (fun v41 hv41=> ?_))
   refine go 2 ?_
   rw[show out'.flatMap lfC++ [Value.int .i64 m[i].1,b0B m[i].2]=(out'++ [m[i]]).flatMap lfC by simp,show out'.length+1=(out'++ [m[i]]).length by simp]
   refine go 5 ?_
   exact rd idh (⟨(i+1,dn',out'++ [m[i]],v41),hil,by(show j0X m at_ d=(out'++ [m[i]])++_);rw[he'];simp only[List.append_assoc]⟩)
  ·have hne:m[i].1=at_:=by simpa using hb37
   rw[if_pos hne]at he'
   refine go 6 ?_
   exact rd idh (⟨(i+1,dn',out',v'),hil,by(show j0X m at_ d=out'++_);rw[he'];simp only[List.nil_append]⟩)
 ·obtain rfl:i=m.length:=by have:=of_decide_eq_false hb17;omega
  rw[List.drop_length,v1D]at he
  refine go 9 ?_
  refine a0P rfl (fun hb44=> ?_) (fun hb44=> ?_)
  ·have hdn:dn=false:=by simpa using hb44
   rw[hdn,if_neg (by simp)]at he
   refine go 5 ?_
   refine bl fun b49=> ?_
   refine(c0Z Tsl.o Ttb.o Zr.o rfl rfl rfl gFd (e0Z Tsl.o (by simp;rfl) (by simp) (by simp[Value.oneCell'])) (by simp only[maxLen];omega) (by omega) (fun v50 hv50=> ?_))
   refine go 2 ?_
   rw[show out.flatMap lfC++ [Value.int .i64 at_,b0B d]=(out++ [(at_,d)]).flatMap lfC by simp,show out.length+1=(out++ [(at_,d)]).length by simp,←he]
   refine go 7 ?_
   exact rE idh v50 trivial
  ·have hdn:dn=true:=by simpa using hb44
   rw[hdn,if_pos rfl,List.append_nil]at he
   rw[←he]
   refine go 8 ?_
   exact rE idh v trivial
theorem q1L (H:b0A) (mv:Value) (m:List Lf) (f u:Int) (hm:a1D H mv m) (hml:m.length≤100000):a0F prog 172 #[mv,.int .i64 f,.int .i64 u] [b0Z H] (b0N (fun _:Value=>True) id (fun v=> [t0I v (g0P m f u),b0Z H])):=by
 obtain⟨p,cap,rfl,hcap⟩:=d0Q hm
 refine en func172 ntmps172 fun R w0=> ?_
 refine go 7 ?_
 refine bl fun b10=> ?_
 refine go 5 ?_
 refine b0V (fun w h=>n0U 2 h) ?_
 refine go 7 ?_
 refine a0V (X:= {x:Nat×List Lf×Value // x.1≤m.length∧x.2.1=g0P (m.take x.1) f u}) (fun y=> [(1,.int .i64 f),(2,.int .i64 u),(7,y.1.2.2),(11,.slice p m.length cap),(12,.int .i64 m.length),(13,.int .i64 y.1.1)]) (fun y=> [t0I y.1.2.2 y.1.2.1,b0Z H,R]) (fun y=>m.length-y.1.1) ⟨(0,[],.slice (some ⟨b10,0,none⟩) 0 0),Nat.zero_le _,rfl⟩ gSu gSp ?_
 rintro⟨⟨i,out,v⟩,hi,he⟩ m0 hm0
 try simp only at hm0
 try dsimp only
 simp only at hi he
 have hol:out.length≤m.length:=by rw[he];exact Nat.le_trans (List.length_filter_le _ _) (by rw[List.length_take];omega)
 refine go 6 ?_
 refine a0P rfl (fun hb14=> ?_) (fun hb14=> ?_)
 ·have hil:i<m.length:=by have:=of_decide_eq_true hb14;omega
  obtain⟨b,o,cap',cur,hv,hc,hmem,hcut,hlen2⟩:=g0G hm (by omega)
  cases hv
  have hcu:(cur.drop (o+i*2)).take 2=lfC m[i]:=(h0R hcut hil).trans (q0E (f:=lfC) (size:=2) (fun _=>rfl) m hil)
  have hnx:g0P (m.take (i+1)) f u=out++(if m[i].1<f∨u≤m[i].1 then [m[i]]else []):=by
   rw[List.take_succ,List.getElem?_eq_getElem hil,he]
   unfold g0P
   rw[List.filter_append]
   congr 1
   simp only[Option.toList_some,List.filter_cons,List.filter_nil,decide_eq_true_eq]
  refine go 7 ?_
  refine a0D (e0U (vs:=lfC m[i]) Ag.o rfl gFd hmem hcu rfl (by decide)) ?_
  refine al fun b9=> ?_
  refine go 4 ?_
  by_cases hlt:m[i].1<f
  ·refine go 16 ?_
   refine a0D (a0L (v:= #[.int .i64 m[i].1,b0B m[i].2]) Ag.o rfl (by simp) (by rfl)) ?_
   refine bl fun b29=> ?_
   refine(c0Z Tsl.o Ttb.o Zr.o rfl rfl rfl gFd (e0Z Tsl.o (by simp;rfl) (by simp) (by simp[Value.oneCell'])) (by simp only[maxLen];omega) (by omega) (fun v30 hv30=> ?_))
   refine go 2 ?_
   rw[show out.flatMap lfC++ [Value.int .i64 m[i].1,b0B m[i].2]=(out++ [m[i]]).flatMap lfC by simp,show out.length+1=(out++ [m[i]]).length by simp]
   refine go 5 ?_
   exact rd idh (⟨(i+1,out++ [m[i]],v30),hil,by rw[hnx,if_pos (.inl hlt)]⟩)
  ·refine go 13 ?_
   refine a0P rfl (fun hb26=> ?_) (fun hb26=> ?_)
   ·have hge:u≤m[i].1:=by simpa using hb26
    refine go 2 ?_
    refine a0D (a0L (v:= #[.int .i64 m[i].1,b0B m[i].2]) Ag.o rfl (by simp) (by rfl)) ?_
    refine bl fun b29=> ?_
    refine(c0Z Tsl.o Ttb.o Zr.o rfl rfl rfl gFd (e0Z Tsl.o (by simp;rfl) (by simp) (by simp[Value.oneCell'])) (by simp only[maxLen];omega) (by omega) (fun v30 hv30=> ?_))
    refine go 2 ?_
    rw[show out.flatMap lfC++ [Value.int .i64 m[i].1,b0B m[i].2]=(out++ [m[i]]).flatMap lfC by simp,show out.length+1=(out++ [m[i]]).length by simp]
    refine go 5 ?_
    exact rd idh (⟨(i+1,out++ [m[i]],v30),hil,by rw[hnx,if_pos (.inr hge)]⟩)
   ·have hge: ¬u≤m[i].1:=by simpa using hb26
    refine go 6 ?_
    exact rd idh (⟨(i+1,out,v),hil,by rw[hnx,if_neg (by omega),List.append_nil]⟩)
 ·obtain rfl:i=m.length:=by have:=of_decide_eq_false hb14;omega
  rw[List.take_of_length_le (Nat.le_refl _)]at he
  rw[he]
  refine go 8 ?_
  exact rE idh v trivial
structure Vx where
 v:Vp
 mv:Value
structure Rx where
 lv:Value
 l:List Vx
 next:Int
 bits:Nat
 epoch:Int
def er (c:Rx):Rp:= {l:=c.l.map (·.v),next:=c.next,bits:=c.bits,epoch:=c.epoch}
def a0S (x:Vx):List Value:= [.int .i64 x.v.id,.int .i64 x.v.parent,.bool x.v.only,.int .i64 x.v.size,.int .i64 x.v.born,x.mv]
def z0H (x:Vx):Value:= .agg (a0S x).toArray
def a0H (c:Rx):List Value:= [c.lv,.int .i64 c.next,.int .i64 c.bits,.int .i64 c.epoch]
def e0R (c:Rx):Value:= .agg (a0H c).toArray
abbrev t2X (H:b0A) (lv:Value) (l:List Vx):Prop:=i0E H 42 6 lv l.length (l.flatMap a0S)
abbrev m0Z (H:b0A) (x:Vx):Prop:=a1D H x.mv x.v.m∧m0D x.v.m
structure c0T (H:b0A) (c:Rx):Prop where
 vols:t2X H c.lv c.l
 maps: ∀x∈c.l,m0Z H x
 few:c.l.length≤1000
theorem t0Y (x:Vx):(a0S x).length=6:=rfl
theorem m0V (l:List Vx) {i:Nat} (hi:i<l.length):((l.flatMap a0S).drop (i*6)).take 6=a0S l[i]:=q0E t0Y l hi
theorem m0Z.more {H H':b0A} {x:Vx} (h:m0Z H x) (hs: ∀p∈H,p∈H'):m0Z H' x:=⟨h.1.more hs,h.2⟩
theorem c0T.more {H H':b0A} {c:Rx} (h:c0T H c) (hs: ∀p∈H,p∈H'):c0T H' c:=⟨h.vols.more hs,fun x hx=>(h.maps x hx).more hs,h.few⟩
theorem w0T {H:b0A} {l:List Vx} (h: ∀x∈l,m0Z H x): ∀u∈l.flatMap a0S,u.oneCell'=true:=fun u hu=>by
 obtain⟨x,hx,hu⟩:=List.mem_flatMap.1 hu
 simp only[a0S,List.mem_cons,List.not_mem_nil,or_false]at hu
 rcases hu with rfl|rfl|rfl|rfl|rfl|rfl
 ·rfl
 ·rfl
 ·rfl
 ·rfl
 ·rfl
 ·exact(h x hx).1.one
theorem o2V {l:List Vp} {id:Int} {i:Nat} (hi:i<l.length) (hb: ∀j (h:j<l.length),j<i→l[j].id≠id) (h:l[i].id=id):c0O l id=some i:=by
 unfold c0O
 rw[List.findIdx?_eq_some_iff_getElem]
 exact⟨hi,by simpa using h,fun j hj=>by simpa using hb j (by omega) hj⟩
theorem o2W {l:List Vp} {id:Int} (hb: ∀j (h:j<l.length),l[j].id≠id):c0O l id=none:=by
 unfold c0O
 rw[List.findIdx?_eq_none_iff]
 intro x hx
 obtain⟨j,hj,rfl⟩:=List.mem_iff_getElem.1 hx
 simpa using hb j hj
theorem t0Z {l:List Vp} {id:Int} {i:Nat} (h:c0O l id=some i):i<l.length:=by
 unfold c0O at h
 rw[List.findIdx?_eq_some_iff_getElem]at h
 exact h.1
abbrev v0G (b:Nat) (c:Rx):a0C:=pts b (.cells (a0H c).toArray 34 (0,0))
abbrev v1F (b:Nat) (x:Vx):a0C:=pts b (.cells (a0S x).toArray 42 (0,0))
theorem l1L (H:b0A) (c:Rx) (id:Int) (hc:c0T H c):a0F prog 101 #[e0R c,.int .i64 id] [b0Z H] (a0T (.int .i64 (d1H (er c).l id)) [b0Z H]):=by
 obtain⟨p,cap,hlv,hcap⟩:=d0Q hc.vols
 have hfew:=hc.few
 have hrow:=hc.vols
 rw[hlv]at hrow
 refine en func101 ntmps101 fun R w0=> ?_
 try simp only[e0R,a0H]
 rw[hlv]
 refine go 2 ?_
 refine bx fun b2=> ?_
 refine go 13 ?_
 refine a0V (X:= {i:Nat // i≤c.l.length∧ ∀j (h:j<c.l.length),j<i→c.l[j].v.id≠id}) (fun y=> [(1,.int .i64 id),(8,.slice p c.l.length cap),(9,.int .i64 c.l.length),(10,.int .i64 y.1)]) (fun y=> [b0Z H,R]) (fun y=>c.l.length-y.1) ⟨0,Nat.zero_le _,fun j _ hj=>absurd hj (Nat.not_lt_zero _)⟩ gSu gSp ?_
 rintro⟨i,hi,hz⟩ m0 hm0
 try simp only at hm0
 try dsimp only
 skip
 refine go 6 ?_
 refine a0P rfl (fun hb11=> ?_) (fun hb11=> ?_)
 ·have hil:i<c.l.length:=by have:=of_decide_eq_true hb11;omega
  obtain⟨b,o,cap',cur,hv,hcp,hmem,hcut,hlen⟩:=g0G hrow (by omega)
  cases hv
  have hcu:(cur.drop (o+i*6)).take 6=a0S c.l[i]:=(h0R hcut hil).trans (m0V c.l hil)
  refine go 8 ?_
  refine a0D (e0U (vs:=a0S c.l[i]) Ag.o rfl gFd hmem hcu rfl (by decide)) ?_
  refine al fun b6=> ?_
  refine go 1 ?_
  refine a0M Sz.o rfl rfl rfl (fun u hu=>w0T hc.maps u (List.mem_flatMap.2 ⟨c.l[i],List.getElem_mem hil,by simpa using hu⟩)) (by simp[a0S,Value.cells]) (a0N (by simp[a0S,Value.cells])) ?_
  refine go 10 ?_
  refine a0P rfl (fun hb18=> ?_) (fun hb18=> ?_)
  ·have he:c.l[i].v.id=id:=by simpa using hb18
   refine go 6 ?_
   exact rG (hu:=(by unfold d1H;rw[o2V (i:=i) (by simpa [er] using hil) (fun j hj hji=>by simpa [er] using hz j (by simpa [er] using hj) hji) (by simpa [er] using he)]))
  ·have he: ¬c.l[i].v.id=id:=by simpa using hb18
   refine go 6 ?_
   exact rd idh (⟨i+1,hil,fun j hjl hj=>if h:j=i then by subst h;exact he else hz j hjl (by omega)⟩)
 ·obtain rfl:i=c.l.length:=by have:=of_decide_eq_false hb11;omega
  refine go 7 ?_
  exact rG (hu:=(by unfold d1H;rw[o2W (fun j hj=>by simpa [er] using hz j (by simpa [er] using hj) (by simpa [er] using hj))]))
end Go.Proofs.Q

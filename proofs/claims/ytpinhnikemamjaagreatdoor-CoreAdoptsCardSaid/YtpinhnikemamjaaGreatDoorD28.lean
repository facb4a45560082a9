/- Part of the proof; no statement of its own. -/
import Derived.Test.YtpinhnikemamjaaGreatDoorProg
import Derived.KernelRfl
import Derived.Test.YtpinhnikemamjaaGreatDoorD08
import Derived.Test.YtpinhnikemamjaaGreatDoorD19
import Derived.Test.YtpinhnikemamjaaGreatDoorD17
import Derived.Test.YtpinhnikemamjaaGreatDoorD25
import Derived.Test.YtpinhnikemamjaaGreatDoorD07
import Derived.Test.YtpinhnikemamjaaGreatDoorD24
import Derived.Test.YtpinhnikemamjaaGreatDoorD27
set_option linter.all false
set_option maxRecDepth 4000
set_option maxHeartbeats 4000000
attribute [local irreducible] Go.Sl.a0P Go.Sl.OW Go.Sl.CW Go.Sl.OS Go.Sl.OM Go.Sl.OMf Go.Sl.KM
namespace Go.Proofs.Q
open Go Go.Sl Tryz
instance:Ag prog 259 2:=⟨kr⟩
instance:Fl prog 259 0 0:=⟨kr⟩
instance:Fl prog 259 1 1:=⟨kr⟩
instance:Hb prog 153:=⟨kr⟩
instance:Hb prog 188:=⟨kr⟩
instance:Hb prog 189:=⟨kr⟩
instance:Tsl prog 40 259 2:=⟨kr⟩
instance:Sz prog 259 2:=⟨kr⟩
instance:Zr prog 259 (.agg #[.int .i64 0,.string ByteArray.empty]):=⟨kr⟩
instance:Hb prog 173:=⟨kr⟩
instance:Pl prog 259 ([(0,1),(1,1)],.agg #[.int .i64 0,.string ByteArray.empty]):=⟨kr⟩
instance:Ttb prog 259 24:=⟨kr⟩
instance:Fl prog 277 1 1:=⟨kr⟩
instance:Hb prog 261:=⟨kr⟩
instance:Hb prog 227:=⟨kr⟩
instance:Hb prog 228:=⟨kr⟩
instance:Hb prog 229:=⟨kr⟩
instance:Hb prog 230:=⟨kr⟩
instance:Hb prog 231:=⟨kr⟩
end Go.Proofs.Q
namespace Go.Proofs.Q
open Go.Sl Go.Sb Tryz
theorem g2M (n:Int) (a:0≤n):a0G prog 230 #[.int .i64 n] [] (a0T (.int .i64 (n%4294967296)) []):=by
 refine en func230 ntmps230 fun R w0=> ?_;refine go 8 ?_;refine a0D (k1P rfl rfl ⟨a,by omega⟩) ?_;refine go 3 ?_;exact rG
theorem l2S (n:Int) (X:BitVec 32) (a:0≤n) (h:n%4294967296=X.toNat):a0G prog 230 #[.int .i64 n] [] (a0T (i32 X) []):=by
 have:=g2M n a;rw[h]at this;exact this
theorem y0Q (n:Int) (X:BitVec 32) (a:0≤n) (h:n%4294967296=X.toNat):a0G prog 230 #[.int .i64 n] [] (a0T (.int .i64 (X.toNat:Int)) []):=l2S n X a h
theorem l0T (X:BitVec 32) (n:Nat) (b:1≤n) (c:n≤31):a0G prog 231 #[i32 X,.int .i64 n] [] (a0T (i32 (X.rotateRight n)) []):=by
 have a:=i2V X n (by omega);rw[←a,BitVec.or_comm];refine en func231 ntmps231 fun R w0=> ?_;refine go 6 ?_;refine mx (.r 0 7 (.hard 7 (.r 8 2 .done))) [] ?_;refine go 2 ?_;refine d0A rfl (s1Z rfl rfl (by omega)) ?_;refine go 3 ?_;rw[show(32:Int)- ((n:Nat):Int)=((32-n:Nat):Int) by omega];refine d0A rfl (x2K rfl rfl (by omega)) ?_;refine go 1 ?_;refine b0X rfl Hb.o rfl (l2S _ (X <<< (32-n)) (Int.natCast_nonneg _) (t2M X (32-n))) gSp ?_;refine ns ?_;refine go 2 ?_;refine d0A rfl (e2A rfl rfl) ?_;refine go 3 ?_;exact rG
def l0X (n cnt:Nat):B:=(List.range cnt).map fun i=>UInt8.ofNat (n/256^(cnt-1-i))
theorem z1U (n cnt j:Nat) (h:j<cnt):(l0X n cnt).take (j+1)=(l0X n cnt).take j++ [UInt8.ofNat (n/256^(cnt-1-j))]:=by
 have a:(l0X n cnt).length=cnt:=by simp[l0X]
 rw[List.take_succ,List.getElem?_eq_getElem (by omega)];simp[l0X]
theorem z2W (i:Nat):(2:Nat)^(8*i)=256^i:=by rw[Nat.pow_mul]
theorem i1C (n cnt:Nat) (m:cnt≤8) (p:n<9223372036854775808):a0G prog 227 #[.int .i64 n,.int .i64 cnt] [] (a0T (b0C (l0X n cnt)) []):=by
 have l:(l0X n cnt).length=cnt:=by simp[l0X]
 refine en func227 ntmps227 fun R w0=> ?_;refine go 7 ?_;refine bl fun k=> ?_;refine go 5 ?_;refine b0U (fun w h=>o0K 1 h) ?_;refine go 3 ?_;rw[show(cnt:Int)-1=(cnt:Int)-1- ((0:Nat):Int) by omega];refine go 4 ?_;refine a0V (X:= {x:Nat×Value // x.1≤cnt}) (fun y=> [(0,.int .i64 n),(5,y.1.2),(6,.int .i64 ((cnt:Int)-1-y.1.1))]) (fun y=> [b0I 5 1 y.1.2 y.1.1 (((l0X n cnt).take y.1.1).map a0Q),R]) (fun y=>cnt-y.1.1) ⟨(0,.slice (some ⟨k,0,none⟩) 0 0),Nat.zero_le _⟩ gSu gSp ?_;rintro⟨⟨j,v⟩,hj⟩ m0 hm0
 try simp only at hm0
 try dsimp only
 simp only at hj;refine go 7 ?_;refine a0O rfl (fun a=> ?_) (fun a=> ?_)
 ·have b:j<cnt:=by have:=of_decide_eq_true a;omega
  obtain⟨i,hi⟩: ∃i,i=cnt-1-j:=⟨_,rfl⟩;rw[show(cnt:Int)-1- (j:Int)=(i:Int) by omega];have d:(n:Int)/2^((8:Int)*(i:Int)).toNat=((n/256^i:Nat):Int):=by rw[show((8:Int)*(i:Int)).toNat=8*i by omega,←z2W];norm_cast
  obtain⟨u,hu⟩: ∃u,u=UInt8.ofNat (n/256^i):=⟨_,rfl⟩;have c:IntKind.u8.wrap (((n/256^i:Nat):Int)%256)=(u.toNat:Int):=by rw[hu,IntKind.wrap_u8,UInt8.toNat_ofNat'];omega
  refine go 9 ?_;refine a0D (t0B rfl rfl (by first|decide| (simp only[IntKind.bits];omega))) ?_;rw[d];refine a0D (k1P rfl rfl ⟨Int.natCast_nonneg _,by decide⟩) ?_;refine go 1 ?_;rw[c];refine bl fun g=> ?_;refine(d0E Tsl.o Ttb.o Zr.o rfl rfl rfl gFd (f0I Tsl.o (by simp;rfl) (by simp) (by simp[Value.oneCell'])) (by simp only[maxLen];omega) (by omega) (fun e f=> ?_));refine go 2 ?_;rw[show((l0X n cnt).take j).map a0Q++ [Value.int .u8 (u.toNat:Int)]=((l0X n cnt).take (j+1)).map a0Q by rw[z1U n cnt j b,←hi,←hu];simp[a0Q]];refine go 4 ?_;rw[show(i:Int)-1=(cnt:Int)-1- ((j+1:Nat):Int) by omega];refine go 2 ?_;exact rd idh (⟨(j+1,e),b⟩)
 ·obtain rfl:j=cnt:=by have:=of_decide_eq_false a;omega
  rw[List.take_of_length_le (by omega)];refine go 5 ?_;refine a0D (y0V Tsl.o Tst.o Tby.o rfl gFd) ?_;refine go 3 ?_;exact rG
theorem r1W:a0G prog 228 #[] [] (b0P (fun _:Value=>True) id (fun v=> [b0I 3 1 v 64 (Sha.e0N.map i32)])):=by
 refine en func228 ntmps228 fun R w0=> ?_;refine go 7 ?_;refine bl fun a=> ?_;refine e0X (fun w h=>b1R (n:=64) (cs:=Sha.e0N.map i32) rfl (by simp[maxLen]) h) ?_;refine go 3 ?_;exact rE idh _ trivial
theorem q2V (l:B) (k:Nat) (h:k<l.length):be (l.take (k+1))=be (l.take k)*256+(l[k]).toNat:=by
 rw[List.take_succ,List.getElem?_eq_getElem h];unfold be;rw[List.foldl_append];rfl
theorem i1D (c:UInt8):IntKind.i64.wrap ((c.toNat:Nat):Int)=(c.toNat:Int):=by
 have h:=c.toNat_lt;have e:((2^(IntKind.i64.bits-1):Nat):Int)=9223372036854775808:=by decide
 exact e0P .i64 _ (Int.natCast_nonneg _) (by omega)
theorem z0L (n:BitVec 32) (c:UInt8) (h:n.toNat<2^24):(n <<< 8 ||| c.toBitVec.setWidth 32).toNat=n.toNat*256+c.toNat:=by
 have a:(n <<< 8).toNat=n.toNat*256:=by rw[BitVec.toNat_shiftLeft,Nat.shiftLeft_eq];omega
 have d:(c.toBitVec.setWidth 32).toNat=c.toNat:=by
  rw[BitVec.toNat_setWidth];have h:=c.toNat_lt;have e:c.toBitVec.toNat=c.toNat:=rfl;rw[e];omega
 have f:=Nat.two_pow_add_eq_or_of_lt (i:=8) (b:=c.toNat) (by have:=c.toNat_lt;omega) n.toNat;rw[BitVec.toNat_or,a,d,Nat.mul_comm n.toNat 256];exact f.symm
theorem v2T (l:B) (h:4≤l.length):(Sha.n1Z l).toNat=be (l.take 4):=by
 match l,h with
 |a::b::c::d::r,_=>
  have j:=a.toNat_lt;have hb:=b.toNat_lt;have k:=c.toNat_lt;show(((((0:BitVec 32) <<< 8 ||| a.toBitVec.setWidth 32) <<< 8 ||| b.toBitVec.setWidth 32) <<< 8 ||| c.toBitVec.setWidth 32) <<< 8 ||| d.toBitVec.setWidth 32).toNat=(((0*256+a.toNat)*256+b.toNat)*256+c.toNat)*256+d.toNat;have e:=z0L 0 a (by decide);have z:(0:BitVec 32).toNat=0:=rfl;rw[z]at e;have f:=z0L _ b (show((0:BitVec 32) <<< 8 ||| a.toBitVec.setWidth 32).toNat<2^24 by rw[e];omega);rw[e]at f;have g:=z0L _ c (show(((0:BitVec 32) <<< 8 ||| a.toBitVec.setWidth 32) <<< 8 ||| b.toBitVec.setWidth 32).toNat<2^24 by rw[f];omega);rw[f]at g;have i:=z0L _ d (show((((0:BitVec 32) <<< 8 ||| a.toBitVec.setWidth 32) <<< 8 ||| b.toBitVec.setWidth 32) <<< 8 ||| c.toBitVec.setWidth 32).toNat<2^24 by rw[g];omega);rw[g]at i;exact i
theorem w1S (b:B) (i:Nat) (h:i<16):(Sha.f0S b).take (i+1)=(Sha.f0S b).take i++ [Sha.n1Z (b.drop (4*i))]:=by
 have a:(Sha.f0S b).length=16:=by simp[Sha.f0S]
 rw[List.take_succ,List.getElem?_eq_getElem (by omega)];simp[Sha.f0S]
theorem i0U (ws:List Sha.W) (i:Nat) (h:i<ws.length):nth (ws.map i32) i=some (i32 (Sha.at_ ws i)):=by
 rw[e0F,List.getElem?_map,List.getElem?_eq_getElem h];unfold Sha.at_;rw[List.getD_eq_getElem?_getD,List.getElem?_eq_getElem h];rfl
theorem z1V (b:B) (hb:b.length=64):a0G prog 229 #[b0C b] [] (b0P (fun _:Value=>True) id (fun v=> [b0I 3 1 v 64 ((Sha.k0U b).map i32)])):=by
 have G:(Sha.f0S b).length=16:=by simp[Sha.f0S]
 have hsz:(bs b).size=64:=by rw[b0H,hb]
 refine en func229 ntmps229 fun R w0=> ?_;refine go 7 ?_;refine bl fun E=> ?_;refine go 5 ?_;refine b0U (fun w h=>o0K 1 h) ?_;refine go 5 ?_;refine a0V (X:= {x:Nat×Value // x.1≤16}) (fun y=> [(0,b0C b),(3,y.1.2),(4,.int .i64 y.1.1)]) (fun y=> [b0I 3 1 y.1.2 y.1.1 (((Sha.f0S b).take y.1.1).map i32),R]) (fun y=>16-y.1.1) ⟨(0,.slice (some ⟨E,0,none⟩) 0 0),Nat.zero_le 16⟩ gSu gSp ?_;rintro⟨⟨i,v⟩,hi⟩ m0 hm0
 try simp only at hm0
 try dsimp only
 simp only at hi;refine go 7 ?_;refine a0O rfl (fun a=> ?_) (fun a=> ?_)
 ·have m:i<16:=by have:=of_decide_eq_true a;omega
  obtain⟨q,K⟩: ∃q,q=b.drop (4*i):=⟨_,rfl⟩;have L:4≤q.length:=by rw[K,List.length_drop];omega
  refine go 16 ?_;refine a0V (X:= {k:Nat // k≤4}) (fun y=> [(0,b0C b),(3,v),(4,.int .i64 i),(5,.int .i64 (be (q.take y.1))),(6,.int .i64 y.1)]) (fun y=> [b0I 3 1 v i (((Sha.f0S b).take i).map i32),R]) (fun y=>4-y.1) ⟨0,by decide⟩ gSu gSp ?_;rintro⟨k,hk⟩ m2 hm2
  try simp only at hm2
  try dsimp only
  skip;refine go 7 ?_;refine a0O rfl (fun c=> ?_) (fun c=> ?_)
  ·have J:k<4:=by have:=of_decide_eq_true c;omega
   have H:=l1U (q.take k);have hb2:be (q.take k)<256^3:=Nat.lt_of_lt_of_le H (Nat.pow_le_pow_right (by decide) (by rw[List.length_take];omega));have hu:(bs b).data.toList[4*i+k]? =some q[k]:=by rw[m0D,List.getElem?_eq_getElem (by omega)];simp[K]
   have hqk:=(q[k]).toNat_lt;refine go 12 ?_;refine a0D (d1U Tst.o rfl rfl (by omega) (u:=q[k]) (by rw[show((4:Int)*(i:Int)+(k:Int)).toNat=4*i+k by omega];exact hu)) ?_;refine go 1 ?_;rw[i1D];refine go 1 ?_;rw[show(256:Int)*((be (q.take k):Nat):Int)+((q[k].toNat:Nat):Int)=((be (q.take (k+1)):Nat):Int) by rw[q2V q k (by omega)];omega];refine go 8 ?_;exact rd idh (⟨k+1,J⟩)
  ·obtain rfl:k=4:=by have:=of_decide_eq_false c;omega
   obtain⟨D,t⟩: ∃D,D=Sha.n1Z q:=⟨_,rfl⟩;rw[show((be (q.take 4):Nat):Int)=(D.toNat:Int) by rw[t,v2T q L]];refine go 5 ?_;refine bl fun Z=> ?_;refine(d0E Tsl.o Ttb.o Zr.o rfl rfl rfl gFd (f0I Tsl.o (by simp;rfl) (by simp) (by simp[Value.oneCell'])) (by simp only[maxLen];omega) (by omega) (fun O V=> ?_));refine go 2 ?_;rw[show((Sha.f0S b).take i).map i32++ [Value.int .i64 (D.toNat:Int)]=((Sha.f0S b).take (i+1)).map i32 by rw[w1S b i m,←K,←t];simp[i32]];refine go 6 ?_;exact rd idh (⟨(i+1,O),m⟩)
 ·obtain rfl:i=16:=by have:=of_decide_eq_false a;omega
  rw[List.take_of_length_le (by omega)];refine go 9 ?_;refine a0V (X:= {x:Nat×List Sha.W×Value // 16≤x.1∧x.1≤64∧x.2.1.length=x.1∧Sha.k0U b=Sha.more (64-x.1) x.2.1}) (fun y=> [(3,y.1.2.2),(7,.int .i64 y.1.1)]) (fun y=> [b0I 3 1 y.1.2.2 y.1.1 (y.1.2.1.map i32),R]) (fun y=>64-y.1.1) ⟨(16,Sha.f0S b,v),Nat.le_refl 16,by(show 16≤64);decide,G,rfl⟩ gSu gSp ?_;rintro⟨⟨n,ws,u⟩,hn1,hn2,hwl,he⟩ m4 hm4
  try simp only at hm4
  try dsimp only
  simp only at hn1 hn2 hwl he;refine go 7 ?_;refine a0O rfl (fun d=> ?_) (fun d=> ?_)
  ·have p:n<64:=by have:=of_decide_eq_true d;omega
   refine i0T (e:=3) gFd (by omega) fun bw P M I=> ?_;subst M;obtain⟨A,j⟩: ∃A,A=Sha.at_ ws (n-16):=⟨_,rfl⟩;obtain⟨g,l⟩: ∃g,g=Sha.at_ ws (n-7):=⟨_,rfl⟩;obtain⟨X,T⟩: ∃X,X=Sha.at_ ws (n-15):=⟨_,rfl⟩;obtain⟨Y,U⟩: ∃Y,Y=Sha.at_ ws (n-2):=⟨_,rfl⟩;have hN:Sha.b1T ws=A+Sha.s0 X+g+Sha.s1 Y:=by unfold Sha.b1T;rw[j,l,T,U,hwl]
   obtain⟨N,hN2⟩: ∃N,N=Sha.b1T ws:=⟨_,rfl⟩;obtain⟨z,Q⟩: ∃z,z=Sha.s0 X:=⟨_,rfl⟩;obtain⟨C,S⟩: ∃C,C=Sha.s1 Y:=⟨_,rfl⟩;rw[←hN2,←Q,←S]at hN;have l1:=A.isLt;have l2:=g.isLt;have l3:=z.isLt;have l4:=C.isLt;refine go 10 ?_;refine b0V (a0X (v:=i32 X) Sc.o rfl gFd (by rw[show 0+((n:Int)-15).toNat*1=n-15 by omega,T];exact i0U ws (n-15) (by omega))) ?_;refine go 4 ?_;refine b0V (a0X (v:=i32 Y) Sc.o rfl gFd (by rw[show 0+((n:Int)-2).toNat*1=n-2 by omega,U];exact i0U ws (n-2) (by omega))) ?_;refine cg 7 (l0T X 7 (by omega) (by omega)) ?_;refine cg 1 (l0T X 18 (by omega) (by omega)) ?_;refine a0D (v0P rfl rfl) ?_;refine go 1 ?_;refine a0D (s1Z (n:=3) rfl rfl (by omega)) ?_;refine a0D (v0P rfl rfl) ?_;rw[show X.rotateRight 7 ^^^ X.rotateRight 18 ^^^ X >>> 3=z from Q.symm];refine cg 6 (l0T Y 17 (by omega) (by omega)) ?_;refine cg 1 (l0T Y 19 (by omega) (by omega)) ?_;refine a0D (v0P rfl rfl) ?_;refine go 1 ?_;refine a0D (s1Z (n:=10) rfl rfl (by omega)) ?_;refine a0D (v0P rfl rfl) ?_;rw[show Y.rotateRight 17 ^^^ Y.rotateRight 19 ^^^ Y >>> 10=C from S.symm];refine go 3 ?_;refine mx (.r 0 5 (.soft 6 (.r 8 4 (.soft 14 (.two 5 (.soft 7 (.hard 12 (.soft 13 (.soft 15 (.hard 16 (.hard 17 (.hard 18 (.soft 19 .done)))))))) 12 (.hard 5 (.soft 7 (.soft 13 (.soft 15 (.hard 16 (.hard 17 (.hard 18 (.soft 19 .done))))))))))))) [] ?_;refine go 11 ?_;refine p0R rfl rfl ?_ ?_
   ·refine a0D (a0X (v:=i32 A) Sc.o rfl gFd (by rw[show 0+((n:Int)-16).toNat*1=n-16 by omega,j];exact i0U ws (n-16) (by omega))) ?_;refine go 4 ?_;refine a0D (a0X (v:=i32 g) Sc.o rfl gFd (by rw[show 0+((n:Int)-7).toNat*1=n-7 by omega,l];exact i0U ws (n-7) (by omega))) ?_;refine go 5 ?_;refine b0X rfl Hb.o rfl (y0Q _ N (by omega) (by rw[hN];simp only[BitVec.toNat_add,←j,←l];omega)) gSp ?_;refine ns ?_;refine go 3 ?_;refine bl fun F=> ?_;refine go 3 ?_;refine(d0E Tsl.o Ttb.o Zr.o rfl rfl rfl gFd (f0I Tsl.o (by simp;rfl) (by simp) (by simp[Value.oneCell'])) (by simp only[maxLen];omega) (by omega) (fun f s=> ?_));refine go 4 ?_;rw[show ws.map i32++ [Value.int .i64 (N.toNat:Int)]=(ws++ [N]).map i32 by simp[i32]];refine go 6 ?_;exact rd idh (⟨(n+1,ws++ [N],f),by(show 16≤n+1);omega,p,by(show(ws++ [N]).length=n+1);simp[hwl],by rw[he,show 64-n=64- (n+1)+1 by omega,hN2];rfl⟩)
   ·refine a0D (a0X (v:=i32 g) Sc.o rfl gFd (by rw[show 0+((n:Int)-7).toNat*1=n-7 by omega,l];exact i0U ws (n-7) (by omega))) ?_;refine go 3 ?_;refine a0D (a0X (v:=i32 A) Sc.o rfl gFd (by rw[show 0+((n:Int)-16).toNat*1=n-16 by omega,j];exact i0U ws (n-16) (by omega))) ?_;refine go 6 ?_;refine b0X rfl Hb.o rfl (y0Q _ N (by omega) (by rw[hN];simp only[BitVec.toNat_add,←j,←l];omega)) gSp ?_;refine ns ?_;refine go 3 ?_;refine bl fun F=> ?_;refine go 3 ?_;refine(d0E Tsl.o Ttb.o Zr.o rfl rfl rfl gFd (f0I Tsl.o (by simp;rfl) (by simp) (by simp[Value.oneCell'])) (by simp only[maxLen];omega) (by omega) (fun f s=> ?_));refine go 4 ?_;rw[show ws.map i32++ [Value.int .i64 (N.toNat:Int)]=(ws++ [N]).map i32 by simp[i32]];refine go 6 ?_;exact rd idh (⟨(n+1,ws++ [N],f),by(show 16≤n+1);omega,p,by(show(ws++ [N]).length=n+1);simp[hwl],by rw[he,show 64-n=64- (n+1)+1 by omega,hN2];rfl⟩)
  ·obtain rfl:n=64:=by have:=of_decide_eq_false d;omega
   rw[show ws=Sha.k0U b by rw[he];rfl];refine go 8 ?_;exact rE idh u trivial
end Go.Proofs.Q
namespace Go.Proofs.Q
open Go Go.Sl Tryz
instance:Hb prog 118:=⟨kr⟩
instance:Hb prog 61:=⟨kr⟩
instance:Hb prog 163:=⟨kr⟩
instance:Hb prog 164:=⟨kr⟩
instance:Hb prog 119:=⟨kr⟩
instance:Hb prog 53:=⟨kr⟩
end Go.Proofs.Q
namespace Go.Proofs.Q
open Go.Sl Go.Sb Tryz
theorem l2T {s:St} {id:Int} {x:Ent} (h:a0C id s.vols=some x):find id s=(.ok x,s):=by unfold find;rw[h]
theorem l2U {s:St} {id:Int} (h:a0C id s.vols=none):find id s=(.err 5,s):=by unfold find;rw[h]
theorem v0X (W:World) (a:Ad) (s:St) (id:Int):a0G prog 53 #[ptr a.core,.int .u32 id] (RS W a s) (Ran fT (RS W a) e0E (find id s)):=by
 have hi:=f1U W a s id;cases b:a0C id s.vols with
 |none=>
  rw[b]at hi;rw[l2U b];refine en func53 ntmps53 fun R w0=> ?_;refine go 2 ?_;refine al fun c=> ?_;refine cg 6 (hi) ?_;refine go 3 ?_;refine al fun d=> ?_;refine go 14 ?_;refine c0A rfl Hb.o rfl (c0M 5) gSp ?_;refine ns ?_;refine pn ?_;exact b0W rfl idh gSp
 |some x=>
  rw[b]at hi;rw[l2T b];refine en func53 ntmps53 fun R w0=> ?_;refine go 2 ?_;refine al fun c=> ?_;refine cg 6 (hi) ?_;refine go 3 ?_;refine al fun d=> ?_;refine go 20 ?_;exact k0A rfl idh (RV.agg Ag.o rfl (by simp[Value.cells,f0U]) (a0I (by simp[Value.cells,f0U])) RV.nil) rfl gSp
theorem d1K (W:World) (a:Ad) (s:St) (id:Int):a0G prog 66 #[ptr a.core,.int .u32 id] (RS W a s) (Ran fT (RS W a) e0E (l0Z id s)):=by
 have e0:l0Z id s=a0B (find id) (fun x=>if x.only then n0L 7 else ret x) s:=rfl;refine en func66 ntmps66 fun R w0=> ?_;refine go 2 ?_;refine al fun f=> ?_;refine go 6 ?_;refine a0U rfl Hb.o rfl (v0X W a s id) gSp (fun x t c=> ?_) (fun e t c=>by refine pn ?_;exact kx ((by rw[e0];exact a0F c)));refine ns ?_;rw[a0A c]at e0;refine al fun g=> ?_;refine go 10 ?_;refine a0O rfl (fun b=> ?_) (fun b=> ?_)
 ·refine go 1 ?_;refine c0A rfl Hb.o rfl (c0M 7) gSp ?_;refine ns ?_;refine pn ?_;exact b0W (by rw[e0,if_pos b];rfl) idh gSp
 ·have d: ¬(x.only=true):=by rw[b];simp
  refine go 8 ?_;exact k0A (by rw[e0,if_neg d];rfl) idh (RV.agg Ag.o rfl (by simp[Value.cells,f0U]) (a0I (by simp[Value.cells,f0U])) RV.nil) rfl gSp
theorem z1W {s:St} {k:Int} {v:Ent} (h:(s0R k v s).1≠ .big):s.log.length<1000000000:=t0W h fun a=>by simp[s0R,a0B,back,a]
theorem g2N {s:St} (k:Int) (v:Ent) (h:s.log.length<1000000000):s0R k v s=(.ok (),{s with log:=bk s.depth s.log (.vols k (a0C k s.vols)),vols:=b0O k v s.vols}):=by
 simp[s0R,a0B,back,show ¬1000000000≤s.log.length by omega]
theorem v0Y (W:World) (a:Ad) (s:St) (x:Ent) (b:(m0H x s).1≠ .big):a0G prog 69 #[ptr a.core,e0E x] (RS W a s) (Ran fT (RS W a) i0S (m0H x s)):=by
 have d:=z1W b;rw[show m0H x s=_ from g2N x.id x d];refine en func69 ntmps69 fun R w0=> ?_
 try simp only[e0E]
 refine e0C gFd fun by_ gv gc o f c=> ?_;simp only[d0B,o0F,c0R,List.cons_append,List.nil_append];refine go 2 ?_;refine bx fun g=> ?_;refine go 2 ?_;refine tl 14 ?_;refine ce 15 (z1B a by_ o s.log s.depth s.vols x.id x d) ?_;rintro e _;refine ns ?_;refine go 1 ?_;refine b0F (c0W (s:= {s with log:=bk s.depth s.log (.vols x.id (a0C x.id s.vols)),vols:=b0O x.id x s.vols}) f c gSp) (x0B rfl rfl rfl gSp)
theorem a1F (W:World) (a:Ad) (s:St) (x:Ent) (at_ n:Int) (c:(h0J x at_ n s).1≠ .big):a0G prog 59 #[e0E x,.int .i64 at_,.int .i64 n] (RS W a s) (Ran fT (RS W a) i0S (h0J x at_ n s)):=by
 have i: ¬5000<x.size:=fun h=>c (by unfold h0J;rw[if_pos h]);have e0:h0J x at_ n s=l0U x at_ n s:=by unfold h0J;rw[if_neg i]
 rw[e0];by_cases d:at_<0
 ·rw[show l0U x at_ n s=(.err 6,s) by unfold l0U;rw[if_pos (.inl d)];rfl];refine en func59 ntmps59 fun R w0=> ?_
  try simp only[e0E]
  refine go 2 ?_;refine bx fun b=> ?_;refine go 28 ?_;refine c0A rfl Hb.o rfl (c0M 6) gSp ?_;refine ns ?_;refine pn ?_;exact b0W rfl idh gSp
 ·by_cases e:n<0
  ·rw[show l0U x at_ n s=(.err 6,s) by unfold l0U;rw[if_pos (.inr (.inl e))];rfl];refine en func59 ntmps59 fun R w0=> ?_
   try simp only[e0E]
   refine go 2 ?_;refine bx fun b=> ?_;refine go 28 ?_;refine c0A rfl Hb.o rfl (c0M 6) gSp ?_;refine ns ?_;refine pn ?_;exact b0W rfl idh gSp
  ·by_cases f:x.size<at_
   ·rw[show l0U x at_ n s=(.err 6,s) by unfold l0U;rw[if_pos (.inr (.inr (.inl f)))];rfl];refine en func59 ntmps59 fun R w0=> ?_
    try simp only[e0E]
    refine go 2 ?_;refine bx fun b=> ?_;refine go 28 ?_;refine c0A rfl Hb.o rfl (c0M 6) gSp ?_;refine ns ?_;refine pn ?_;exact b0W rfl idh gSp
   ·by_cases g:x.size-at_<n
    ·rw[show l0U x at_ n s=(.err 6,s) by unfold l0U;rw[if_pos (.inr (.inr (.inr g)))];rfl];refine en func59 ntmps59 fun R w0=> ?_
     try simp only[e0E]
     refine go 2 ?_;refine bx fun b=> ?_;refine go 28 ?_;refine c0A rfl Hb.o rfl (c0M 6) gSp ?_;refine ns ?_;refine pn ?_;exact b0W rfl idh gSp
    ·rw[show l0U x at_ n s=(.ok (),s) by unfold l0U;rw[if_neg (by omega)];rfl];refine en func59 ntmps59 fun R w0=> ?_
     try simp only[e0E]
     refine go 2 ?_;refine bx fun b=> ?_;refine go 28 ?_;exact fR rfl
theorem y2H (W:World) (a:Ad) (s:St) (root:Int) (at_:Nat) (b:at_<1000000):a0G prog 115 #[ptr a.maps,.int .i64 root,.int .i64 at_] (RS W a s) (Ran fT (fun _:St=>RS W a s) a0H (l0E 2 root at_ s)):=
 a0G.mono_ran (r1E W a s root at_ b) (fun e L h=>(w1R (b1B 2 root at_ s)).2 h)
theorem y2I (W:World) (a:Ad) (s:St) (at_:Int):a0G prog 114 #[ptr a.st,.int .i64 at_] (RS W a s) (Ran fT (fun _:St=>RS W a s) b0C (l0D at_ s)):=
 a0G.mono_ran (q1Y W a s at_) (fun e L h=>(w1R (c2T at_ s)).2 h)
theorem l2V (W:World) (a:Ad) (s:St) (x:Ent) (i:Nat) (hi:i<1000000):a0G prog 61 #[ptr a.core,e0E x,.int .i64 i] (RS W a s) (Ran fT (fun _:St=>RS W a s) b0C (p0K x i s)):=by
 have e0:p0K x i s=a0B (l0E 2 x.root i) l0D s:=rfl;refine en func61 ntmps61 fun R w0=> ?_
 try simp only[e0E]
 refine go 2 ?_;refine bx fun f=> ?_;refine go 4 ?_;refine mx (.r 0 14 (.hard 14 (.hard 15 (.soft 16 .done)))) [HL a s,mpC a,s0M f x] ?_;refine go 3 ?_;refine d0A rfl (j0R Sc.o rfl gFd rfl) ?_;refine go 6 ?_;refine d0A rfl (j0R Sc.o rfl gFd rfl) ?_;refine go 4 ?_;refine a0U rfl Hb.o rfl (y2H W a s x.root i hi) gSp (fun r t c=> ?_) (fun e t c=>by refine pn ?_;exact kx ((by rw[e0];exact a0F c)));refine ns ?_;refine go 3 ?_;have d:=c;rw[show t=s by have:=b1B 2 x.root i s;rw[c]at this;exact this]at d;refine a0U rfl Hb.o rfl (y2I W a s r) gSp (fun b g c=> ?_) (fun e t c=>by refine pn ?_;exact kx ((by rw[e0,a0A d];exact c)));refine ns ?_;refine go 5 ?_;exact rR idh (by rw[e0,a0A d];exact c)
theorem l2W (W:World) (a:Ad) (s:St) (x:Ent) (i:Nat) (hi:i<1000000):a0G prog 61 #[ptr a.core,e0E x,.int .i64 i] (RS W a s) (Ran fT (RS W a) b0C (p0K x i s)):=
 a0G.mono_ran (l2V W a s x i hi) (fun e L h=>(w1R (p1B x i s)).1 h)
def u0B {α:Type} (o:Out α×St):Out Unit×(St×Option α):=match o with
 | (.ok a,s)=>(.ok (),(s,some a))
 | (.err e,s)=>(.err e,(s,none))
 | (.big,s)=>(.big,(s,none))
theorem s0Z {α:Type} {o:Out α×St} {u:Unit} {x:St×Option α} (h:u0B o=(.ok u,x)): ∃a,x=(x.1,some a)∧o=(.ok a,x.1):=by
 obtain⟨o,s⟩:=o;cases o<;>(unfold u0B at h;cases h)
 exact⟨_,rfl,rfl⟩
theorem r0B {α:Type} {o:Out α×St} {e:Int} {x:St×Option α} (h:u0B o=(.err e,x)):x=(x.1,none)∧o=(.err e,x.1):=by
 obtain⟨o,s⟩:=o;cases o<;>(unfold u0B at h;cases h)
 exact⟨rfl,rfl⟩
def RSo {α:Type} (W:World) (a:Ad) (f:α→a0E):St×Option α→List a0E
 | (t,some y)=> [whole W,dkC a t.d,dkR a t.d,m0X (l0N t.d),stC a t.bits,mpC a,HL a t,f y]
 | (t,none)=>RS W a t
set_option maxRecDepth 4000 in
theorem l2X (W:World) (j:i0L W) (a:Ad) (s:St) (b:Nat) (x:Ent) (i:Nat) (data:B) (hi:i<1000000) (l:data.length≤1000000) (g:s.bits≤256) (d:(r0Y x i data s).1≠ .big):
 a0G prog 118 #[ptr a.core,ptr b,.int .i64 i,b0C data] (RS W a s++ [s0M b x]) (Ran fT (RSo W a (s0M b)) i0S (u0B (r0Y x i data s))):=by
 have e0:r0Y x i data s=a0B (j0E data) (fun r=>a0B (m0G x.root i r) fun q=>ret {x with root:=q}) s:=rfl;refine ns ?_;refine en func118 ntmps118 fun R w0=> ?_;refine a1U (.soft 0 (.soft 1 (.soft 2 (.soft 3 (.soft 4 (.soft 5 (.soft 6 (.soft 7 (.soft 9 (.soft 10 (.soft 11 (.soft 12 (.soft 13 (.soft 14 (.soft 15 (.soft 16 (.soft 17 (.two 8 (.hard 18 (.hard 19 (.soft 20 (.soft 21 (.hard 22 .done))))) 18 (.hard 8 (.hard 19 (.soft 20 (.soft 21 (.hard 22 .done))))))))))))))))))))))) [HLX a,mpC a] Fol.o (by kernel_rfl) (by repeat (first|with_reducible exact b0T.bp|with_reducible apply b0T.then|with_reducible apply b0T.inBlock)) (g0T gSp) ?_;refine go 4 ?_;refine d0A rfl (r0T Sc.o rfl gFd (fun _ _=>rfl)) ?_;refine go 7 ?_;refine d0A rfl (r0T Sc.o rfl gFd (fun _ _=>rfl)) ?_;refine go 4 ?_;refine p0R rfl rfl ?_ ?_
 ·refine a0D (b0N Sc.o rfl rfl) ?_;refine go 1 ?_;refine h0B (g0T gSp) ?_;refine go 1 ?_;refine a0U rfl Hb.o rfl (r1A W j a s data l g (by rw[e0]at d;exact c0I d)) gSp (fun r t c=> ?_) (fun e t c=>by refine pn ?_;exact kx ((show u0B (r0Y x i data s)=(.err e,(t,none)) by rw[e0,a0F c];rfl)));refine ns ?_;refine go 1 ?_;refine h0B (g0T gSp) ?_;refine go 1 ?_;have f:=o1U data s;rw[c]at f;have f:t.bits=s.bits:=f;have h:=e0.trans (a0A c);clear c;refine a0U rfl Hb.o rfl (f1R W j a t x.root i r (by omega) hi (by rw[h]at d;exact c0I d)) gSp (fun q k c=> ?_) (fun e t c=>by refine pn ?_;exact kx ((show u0B (r0Y x i data s)=(.err e,(t,none)) by rw[h,a0F c];rfl)));refine ns ?_;refine go 1 ?_;refine h0B (g0T gSp) ?_;refine go 3 ?_;refine d0T (cs':=f0U {x with root:=q}) Sz.o rfl rfl rfl (by rfl) rfl ?_;refine go 1 ?_;refine h0B (g0T gSp) ?_;refine go 1 ?_;exact fR (s:=(k,some {x with root:=q})) (by rw[h,a0A c];rfl)
 ·refine a0U rfl Hb.o rfl (r1A W j a s data l g (by rw[e0]at d;exact c0I d)) gSp (fun r t c=> ?_) (fun e t c=>by refine pn ?_;exact kx ((show u0B (r0Y x i data s)=(.err e,(t,none)) by rw[e0,a0F c];rfl)));refine ns ?_;refine go 1 ?_;refine h0B (g0T gSp) ?_;refine go 1 ?_;refine a0D (b0N Sc.o rfl rfl) ?_;refine go 1 ?_;refine h0B (g0T gSp) ?_;refine go 1 ?_;have f:=o1U data s;rw[c]at f;have f:t.bits=s.bits:=f;have h:=e0.trans (a0A c);clear c;refine a0U rfl Hb.o rfl (f1R W j a t x.root i r (by omega) hi (by rw[h]at d;exact c0I d)) gSp (fun q k c=> ?_) (fun e t c=>by refine pn ?_;exact kx ((show u0B (r0Y x i data s)=(.err e,(t,none)) by rw[h,a0F c];rfl)));refine ns ?_;refine go 1 ?_;refine h0B (g0T gSp) ?_;refine go 3 ?_;refine d0T (cs':=f0U {x with root:=q}) Sz.o rfl rfl rfl (by rfl) rfl ?_;refine go 1 ?_;refine h0B (g0T gSp) ?_;refine go 1 ?_;exact fR (s:=(k,some {x with root:=q})) (by rw[h,a0A c];rfl)
theorem v2U (x:Ent) (i:Nat):PB (p0K x i):=b0L (o1W _ _ _) c2N
theorem c2V (x:Ent) (i:Nat) (d:B):PB (r0Y x i d):=b0L (o1U _) fun _=>b0L (o1X _ _ _) fun _=>c0V _
theorem m1Q {x:Hd} {s:St} (hd:l0N s.d): ∀ {n:Nat} {t:St} {b:B},g0A x n s=(.ok b,t)→b.length=64*n
 |0,t,b,h=>by cases h;rfl
 |n+1,t,b,h=>by
  unfold g0A at h;simp only at h;have k:=f1T x n;generalize x.at_.getD (4- (n+1)) 0=i at h;generalize x.sums.getD (4- (n+1)) 0=c at h;have key: ∀ {m:M B},RO m→(∀ {t b},m s=(.ok b,t)→b.length=64)→a0B m (fun s=>a0B (g0A x n) fun r=>ret (s++r)) s=(.ok b,t)→b.length=64*(n+1):=by
   intro m j g h;cases a:m s with
   |mk o u=>
    have hu:u=s:=by have:=j s;rw[a]at this;exact this
    subst hu;cases o with
    |ok v=>
     rw[a0A a]at h;cases f:g0A x n u with
     |mk o2 u2=>
      cases o2 with
      |ok r=>
       rw[a0A f]at h;cases h
       rw[List.length_append,g a,m1Q hd f];omega
      |err e=>rw[a0F f]at h;cases h
      |big=>unfold a0B at h;rw[f]at h;cases h
    |err e=>rw[a0F a]at h;cases h
    |big=>unfold a0B at h;rw[a]at h;cases h
  refine key (h1H (q0G (h1I _) fun _=>h1H (fun _=>rfl) (u0A _)) (u0A _)) ?_ h;intro t b h;split at h
  ·cases a:g0X i s with
   |mk o u=>
    cases o with
    |ok v=>
     rw[a0A a]at h;split at h
     ·cases h
     ·cases h;exact w1D hd (x0M a).2
    |err e=>rw[a0F a]at h;cases h
    |big=>unfold a0B at h;rw[a]at h;cases h
  ·cases h;rfl
theorem q2W {s t:St} {a:Int} {b:B} (hd:l0N s.d) (h:l0D a s=(.ok b,t)):b.length=256:=by
 unfold l0D at h;split at h
 ·cases h;simp[a0L]
 ·cases c:e0U a s with
  |mk o u=>
   cases o with
   |ok x=>
    rw[a0A c]at h;have hu:=(p0E c).1;subst hu;exact m1Q hd h
   |err e=>rw[a0F c]at h;cases h
   |big=>unfold a0B at h;rw[c]at h;cases h
theorem w1T {x:Ent} {i:Nat} {s t:St} {b:B} (hd:l0N s.d) (h:p0K x i s=(.ok b,t)):t=s∧b.length=256:=by
 have c:=p1B x i s;rw[h]at c;refine⟨c,?_⟩;unfold p0K at h;cases a:l0E 2 x.root i s with
 |mk o u=>
  cases o with
  |ok v=>
   rw[a0A a]at h;have hu:=b1B 2 x.root i s;rw[a]at hu;subst hu;exact q2W hd h
  |err e=>rw[a0F a]at h;cases h
  |big=>unfold a0B at h;rw[a]at h;cases h
theorem q2X {k:Nat} {x:Ent} {at_:Nat} {data:B} (h:data≠ []):j0S (k+1) x at_ data=a0B (p0K x (at_/4)) fun a=>
 a0B (r0Y x (at_/4) (a.take (at_%4*64)++data.take (min data.length (256-at_%4*64))++a.drop (at_%4*64+min data.length (256-at_%4*64)))) fun x=>j0S k x (at_+min data.length (256-at_%4*64)/64) (data.drop (min data.length (256-at_%4*64))):=by
 conv=>lhs;unfold j0S
 rw[if_neg h]
theorem l2Y {k:Nat} {x:Ent} {at_:Nat} :j0S k x at_ []=ret x:=by cases k<;>rfl
theorem h0U (x y:B):bs (x++y)=bs x++bs y:=by
 apply ByteArray.ext;rw[ByteArray.data_append];simp[bs]
theorem z1X (a d:B) (f n:Nat):(bs a).extract 0 ((f:Int).toNat)++(bs d).extract 0 ((n:Int).toNat)++(bs a).extract (((f:Int)+(n:Int)).toNat) (bs a).size=bs (a.take f++d.take n++a.drop (f+n)):=by
 rw[show((f:Int)+(n:Int)).toNat=f+n by omega,Int.toNat_natCast,Int.toNat_natCast,a1V,a1V,x0K,←h0U,←h0U]
set_option maxRecDepth 4000 in
theorem m1R (W:World) (F:i0L W) (a:Ad) (s:St) (b:Nat) (x:Ent) (at_:Nat) (data:B) (hi:at_+data.length<1000000) (w:s.bits≤256) (q:(e0T x at_ data s).1≠ .big):
 a0G prog 68 #[ptr a.core,ptr b,.int .i64 at_,b0C data] (RS W a s++ [s0M b x]) (Ran fT (RSo W a (s0M b)) i0S (u0B (e0T x at_ data s))):=by
 refine ns ?_;refine en func68 ntmps68 fun R w0=> ?_;refine go 1 ?_;refine a0V (X:= {y:Nat×St×Ent×Nat×B // y.2.2.2.2.length≤y.1∧y.2.2.2.1+y.2.2.2.2.length<1000000∧y.2.1.bits=s.bits∧e0T x at_ data s=j0S y.1 y.2.2.1 y.2.2.2.1 y.2.2.2.2 y.2.1}) (fun y=> [(0,ptr a.core),(1,ptr b),(2,.int .i64 y.1.2.2.2.1),(3,b0C y.1.2.2.2.2)]) (fun y=>RS W a y.1.2.1++ [s0M b y.1.2.2.1,R]) (fun y=>y.1.1) ⟨(data.length,s,x,at_,data),Nat.le_refl _,hi,rfl,rfl⟩ gSu gSp ?_;rintro⟨⟨k,u,x',at',d⟩,hk,ha,hub,he⟩ m0 hm0
 try simp only at hm0
 try dsimp only
 simp only at hk ha hub he;refine ns ?_;refine go 5 ?_;rw[b0H];refine go 3 ?_;refine a0O rfl (fun g=> ?_) (fun g=> ?_)
 ·have i:0<d.length:=by have h:=g;simp only[decide_eq_true_eq]at h;omega
  obtain⟨j,rfl⟩: ∃j,k=j+1:=⟨k-1,by omega⟩;rw[q2X (by intro e;rw[e]at i;exact absurd i (by decide))]at he;obtain⟨f,H⟩: ∃f,f=at'%4*64:=⟨_,rfl⟩;have I:f≤192:=by omega
  obtain⟨n,J⟩: ∃n,n=min d.length (256-f):=⟨_,rfl⟩;rw[←H,←J]at he;refine go 10 ?_;rw[show((at':Nat):Int)/4=((at'/4:Nat):Int) by omega,show((at':Nat):Int)%4*64=(f:Int) by omega];refine go 8 ?_;rw[b0H];refine go 3 ?_;rw[show min ((d.length:Nat):Int) (256- (f:Int))=(n:Int) by omega];refine go 4 ?_;refine n0N (p:=l0N u.d) gFd fun z=> ?_;refine go 6 ?_;refine a0U rfl Hb.o rfl (l2W W a u x' (at'/4) (by omega)) gSp (fun c t l=> ?_) (fun e t l=>by refine pn ?_;exact kx ((show u0B (e0T x at_ data s)=(.err e,(t,none)) by rw[he,a0F l];rfl)));refine ns ?_;obtain⟨A,C⟩:=w1T z l;rw[A]at l ⊢;rw[a0A l]at he;have K:(bs c).size=256:=by rw[b0H,C]
  have G:(bs d).size=d.length:=b0H d;refine go 4 ?_;refine tl 16 ?_;refine go 5 ?_;refine b0V (d1W Tst.o rfl rfl (by omega)) ?_;refine go 2 ?_;refine b0V (d1W Tst.o rfl rfl (by omega)) ?_;refine b0V (h0N rfl rfl (by simp only[ByteArray.size_append,ByteArray.size_extract,maxLen];omega)) ?_;refine go 4 ?_;refine b0V (d1V Tst.o rfl rfl (by omega)) ?_;refine b0V (h0N rfl rfl (by simp only[ByteArray.size_append,ByteArray.size_extract,maxLen];omega)) ?_;refine go 1 ?_;rw[z1X c d f n];refine a0U rfl Hb.o rfl (l2X W F a u b x' (at'/4) (c.take f++d.take n++c.drop (f+n)) (by omega) (by simp only[List.length_append,List.length_take,List.length_drop];omega) (by omega) (by rw[he]at q;exact c0I q)) gSp (fun v ⟨E,L⟩ l=> ?_) (fun e t l=>by refine pn ?_;(obtain⟨t1,M⟩:=t;obtain⟨D,m⟩:=r0B l;obtain rfl:M=none:=congrArg Prod.snd D;have m:_=(Out.err e,t1):=m;exact b0W (by rw[he,a0F m];rfl) idh gSp));refine ns ?_;refine go 1 ?_;obtain⟨y,D,m⟩:=s0Z l;obtain rfl:L=some y:=congrArg Prod.snd D;have m:_=(Out.ok y,E):=m;simp only[RSo,List.cons_append,List.nil_append];rw[a0A m]at he;have r:=c2V x' (at'/4) (c.take f++d.take n++c.drop (f+n)) u;rw[m]at r;refine go 5 ?_;refine a0D (d1V Tst.o rfl rfl (by omega)) ?_;rw[Int.toNat_natCast,x0K];refine go 8 ?_;rw[show((at':Nat):Int)+(n:Int)/64=((at'+n/64:Nat):Int) by omega];refine go 2 ?_;exact rd idh (⟨(j,E,y,at'+n/64,d.drop n),by(show(d.drop n).length≤j);rw[List.length_drop];omega,by(show at'+n/64+(d.drop n).length<1000000);rw[List.length_drop];omega,r.trans hub,he⟩)
 ·have i:d= []:=List.eq_nil_of_length_eq_zero (by have h:=g;simp only[decide_eq_false_iff_not]at h;omega);subst i;rw[l2Y]at he;refine go 1 ?_;exact fR (s:=(u,some x')) (by rw[he];rfl)
end Go.Proofs.Q

/- Part of the proof; no statement of its own. -/
import Derived.Test.YtpinhnikemamjaaGreatDoorS28
import Derived.Test.YtpinhnikemamjaaGreatDoorS18
import Derived.Test.YtpinhnikemamjaaGreatDoorS04
import Derived.Test.YtpinhnikemamjaaGreatDoorS16
import Derived.Test.YtpinhnikemamjaaGreatDoorS19
import Derived.Test.YtpinhnikemamjaaGreatDoorS06
import Derived.Test.YtpinhnikemamjaaGreatDoorProg
import Derived.KernelRfl
import Derived.Test.YtpinhnikemamjaaGreatDoorS08
import Derived.Test.YtpinhnikemamjaaGreatDoorS23
import Derived.Test.YtpinhnikemamjaaGreatDoorS27
import Derived.Test.YtpinhnikemamjaaGreatDoorS24
set_option linter.all false
set_option maxRecDepth 4000
set_option maxHeartbeats 4000000
attribute [local irreducible] Go.Sl.a0P Go.Sl.OW Go.Sl.CW Go.Sl.OS Go.Sl.OM Go.Sl.OMf Go.Sl.KM
namespace Go.Proofs.Q
open Go.Sl Go.Sb Tryz
def r0C (x:Nat):Nat:= [0,1,2,2,3,3,3,3,4,4,4,4,4,4,4,4,5].getD x 0
theorem p1D {x:Nat} (h:x≤16):r0C x≤5:=by revert x;decide
theorem x1B {x:Nat} (h:13≤x∧x≤16):(2^r0C x=16∧x<16∧r0C x=4)∨(2^r0C x=32∧x=16∧r0C x=5):=by
 have:x=13∨x=14∨x=15∨x=16:=by omega
 rcases this with rfl|rfl|rfl|rfl<;>decide
theorem le16 {x:Nat} (h:x≤16):x=0∨x=1∨x=2∨x=3∨x=4∨x=5∨x=6∨x=7∨x=8∨x=9∨x=10∨x=11∨x=12∨x=13∨x=14∨x=15∨x=16:=by omega
theorem w2D (x:Nat) (h:x≤16):a0G prog 220 #[.int .u64 x] [] (a0T (.int .i64 (r0C x)) []):=by
 have hb:=p1D h;refine en func220 ntmps220 fun R w0=> ?_;refine go 40 ?_;rw[show IntKind.u8.wrap (x:Int)=(x:Int)from e0P .u8 _ (by omega) (by show(x:Int)<128;omega)];refine a0D (d1U (u:=UInt8.ofNat (r0C x)) Tst.o rfl rfl (by omega) (by rw[Int.toNat_natCast];rcases le16 h with rfl|rfl|rfl|rfl|rfl|rfl|rfl|rfl|rfl|rfl|rfl|rfl|rfl|rfl|rfl|rfl|rfl<;>rfl)) ?_;refine go 1 ?_;rw[show IntKind.i64.wrap ((UInt8.ofNat (r0C x)).toNat:Int)=(r0C x:Int) by rw[UInt8.toNat_ofNat',Nat.mod_eq_of_lt (by omega)];exact e0P .i64 _ (by omega) (by show(r0C x:Int)<9223372036854775808;omega)];refine go 1 ?_;rw[Int.zero_add];refine go 3 ?_;exact rG
theorem s1H (x:Nat) (h:x≤16):a0G prog 180 #[.int .u64 x] [] (a0T (.int .i64 (r0C x)) []):=by
 refine en func180 ntmps180 fun R w0=> ?_;refine cg 12 (w2D x h) ?_;refine go 3 ?_;exact rG
theorem y2N (x:Nat) (h:13≤x∧x≤16):a0G prog 263 #[.int .i64 x] [] (a0T (.int .u64 ((2^r0C x:Nat):Int)) []):=by
 have hb:=p1D h.2;have hp:=x1B h;refine en func263 ntmps263 fun R w0=> ?_;refine go 9 ?_;rw[show IntKind.u64.wrap (x:Int)=(x:Int)from e0P .u64 _ (by omega) (by show(x:Int)<9223372036854775808;omega)];refine cg 0 (s1H x (by omega)) ?_;refine a0D (g1E rfl rfl (by first|decide| (simp only[IntKind.bits];omega))) ?_;rw[show IntKind.u64.wrap (1*2^((r0C x:Int)).toNat)=((2^r0C x:Nat):Int) by rw[Int.toNat_natCast,Int.one_mul];refine(e0P .u64 _ ?_ ?_).trans ?_<;>rcases hp with ⟨h1,_,h3⟩| ⟨h1,_,h3⟩<;>rw[h3]<;>decide];refine go 3 ?_;exact rG
theorem y2O (b:Nat) (x:Int):a0G prog 264 #[pU b] [pts b (.cells #[.int .u64 x] 320 (0,0))] (b0P (fun _:Int=>True) (fun y=> .int .u64 y) (fun y=> [pts b (.cells #[.int .u64 y] 320 (0,0))])):=by
 refine en func264 ntmps264 fun R w0=> ?_;refine go 6 ?_;refine tl 7 ?_;refine go 6 ?_;refine b0V (g1E rfl rfl (by first|decide| (simp only[IntKind.bits];omega))) ?_;refine go 1 ?_;refine a0D (w0I rfl rfl) ?_;refine go 5 ?_;refine tl 7 ?_;refine go 6 ?_;refine b0V (t0B rfl rfl (by first|decide| (simp only[IntKind.bits];omega))) ?_;refine go 1 ?_;refine a0D (w0I rfl rfl) ?_;refine go 5 ?_;refine tl 7 ?_;refine go 6 ?_;refine b0V (g1E rfl rfl (by first|decide| (simp only[IntKind.bits];omega))) ?_;refine go 1 ?_;refine a0D (w0I rfl rfl) ?_;refine go 12 ?_;exact rE idh _ trivial
abbrev cX (b:Nat) (x:Int):a0E:=pts b (.cells #[.int .u64 x] 320 (0,0))
theorem y2P {m:Nat} (h:m=16∨m=32) (y:Int):bits .and .u64 y (IntKind.u64.wrap ((m:Int)-1))=y% (m:Int):=by
 rcases h with rfl|rfl
 ·exact i2K .u64 y
 ·exact s1Q .u64 y
theorem w2E (g n cap a b:Nat) (xs:List Int) (hl:xs.length=n) (hn:n≤16) (hab:a+13≤b) (hb:b≤n):
 a0G prog 212 #[slU g n cap,.int .i64 a,.int .i64 b] [f0V g n cap xs] (b0P (fun ys:List Int=>SP a b xs ys) (fun _=> .tuple #[]) (fun ys=> [f0V g n cap ys])):=by
 obtain⟨l,hl2⟩: ∃l:Nat,b=a+l:=⟨b-a,by omega⟩;subst hl2;have hp2:=x1B (x:=l) (by omega);obtain⟨m,hm⟩: ∃m:Nat,2^r0C l=m:=⟨_,rfl⟩;rw[hm]at hp2;have hp:=y2N l (by omega);rw[hm]at hp;refine en func212 ntmps212 fun R w0=> ?_;refine go 7 ?_;rw[show((a+l:Nat):Int)- (a:Int)=(l:Int) by omega];refine go 12 ?_;refine al fun b7=> ?_;refine cg 6 (hp) ?_;refine go 13 ?_;rw[show(a:Int)+(l:Int)/4*2-1=((a+l/4*2-1:Nat):Int) by omega];refine go 2 ?_;generalize IntKind.u64.wrap (l:Int)=x0;refine a0V (X:= {y:Nat×Int×List Int // a+l/4*2-1≤y.1∧y.1≤a+l/4*2+2∧SP a (a+l) xs y.2.2}) (fun y=> [(0,slU g n cap),(1,.int .i64 a),(6,.int .i64 l),(7,pU b7),(8,.int .u64 m),(9,.int .i64 y.1.1)]) (fun y=> [f0V g n cap y.1.2.2,cX b7 y.1.2.1,R]) (fun y=>a+l/4*2+2-y.1.1) ⟨(a+l/4*2-1,x0,xs),by omega,by(show a+l/4*2-1≤_);omega,SP.refl _ _ _⟩ gSu gSp ?_;rintro⟨⟨i,x,ys⟩,hi1,hi2,hsp⟩ m0 hm0
 try simp only at hm0
 try dsimp only
 dsimp only at hi1 hi2 hsp;have hyl:=hsp.len;refine go 13 ?_;refine a0O rfl (fun hb33=> ?_) (fun hb33=> ?_)
 ·have hi3:i≤a+l/4*2+1:=by have:=of_decide_eq_true hb33;omega
  refine ce 6 (y2O b7 x) ?_;rintro y _;refine ns ?_;refine go 1 ?_;refine a0D (k1O rfl rfl) ?_;refine a0D (o0O rfl rfl) ?_;rw[y2P (by omega)];have hq1:=Int.emod_nonneg y (show(m:Int)≠0 by omega);have hq2:=Int.emod_lt_of_pos y (show 0<(m:Int) by omega);obtain⟨q,hq⟩: ∃q:Nat,y% (m:Int)=q:=⟨(y% (m:Int)).toNat,by omega⟩;have hqm:q<m:=by omega
  rw[hq];refine go 1 ?_;rw[show IntKind.i64.wrap (q:Int)=(q:Int)from e0P .i64 _ (by omega) (by show(q:Int)<9223372036854775808;omega)];refine go 3 ?_;refine j0D (X:= {r:Nat // r<l}) (fun r=> [(0,slU g n cap),(1,.int .i64 a),(6,.int .i64 l),(7,pU b7),(8,.int .u64 m),(9,.int .i64 i),(10,.int .i64 r.1)]) (fun r=> [f0V g n cap ys,cX b7 y,R]) ?_ ?_
  ·refine go 7 ?_;refine a0O rfl (fun hb43=> ?_) (fun hb43=> ?_)
   ·refine go 6 ?_;rw[show(q:Int)- (l:Int)=((q-l:Nat):Int) by have:=of_decide_eq_true hb43;omega];exact me idh (⟨q-l,by have:=of_decide_eq_true hb43;omega⟩)
   ·refine go 1 ?_;exact me idh (⟨q,by have:=of_decide_eq_false hb43;omega⟩)
  rintro⟨r,hr⟩;dsimp only;refine mx (.r 0 11 (.r 12 3 (.two 11 (.hard 15 (.soft 16 (.hard 17 (.soft 18 (.hard 19 .done))))) 15 (.hard 11 (.soft 16 (.hard 17 (.soft 18 (.hard 19 .done)))))))) [] ?_;refine go 14 ?_;refine p0R rfl rfl ?_ ?_
  ·refine a0D (a0X Sc.o rfl gFd (d0C (i:=a+r) (by omega) (by omega))) ?_;refine go 3 ?_;refine a0D (a0X Sc.o rfl gFd (d0C rfl (by omega))) ?_;refine go 4 ?_;refine c0H (xs':=us (ys.set i (xat ys (a+r)))) Sz.o rfl rfl rfl gFd (by rw[f0L];omega) (f0K rfl) ?_;refine go 4 ?_;refine c0H (xs':=us (swp ys i (a+r))) Sz.o rfl rfl rfl gFd (by rw[f0L,List.length_set];omega) (f0K (i:=a+r) (by omega)) ?_;refine go 9 ?_;rw[show(i:Int)+1=((i+1:Nat):Int) by omega];exact rd idh (⟨(i+1,y,swp ys i (a+r)),by(show _≤i+1);omega,by(show i+1≤_);omega,hsp.trans (SP.swap (by omega) (by omega) (by omega))⟩)
  ·refine a0D (a0X Sc.o rfl gFd (d0C rfl (by omega))) ?_;refine go 3 ?_;refine a0D (a0X Sc.o rfl gFd (d0C (i:=a+r) (by omega) (by omega))) ?_;refine go 4 ?_;refine c0H (xs':=us (ys.set i (xat ys (a+r)))) Sz.o rfl rfl rfl gFd (by rw[f0L];omega) (f0K rfl) ?_;refine go 4 ?_;refine c0H (xs':=us (swp ys i (a+r))) Sz.o rfl rfl rfl gFd (by rw[f0L,List.length_set];omega) (f0K (i:=a+r) (by omega)) ?_;refine go 9 ?_;rw[show(i:Int)+1=((i+1:Nat):Int) by omega];exact rd idh (⟨(i+1,y,swp ys i (a+r)),by(show _≤i+1);omega,by(show i+1≤_);omega,hsp.trans (SP.swap (by omega) (by omega) (by omega))⟩)
 ·refine go 1 ?_;exact fE ys hsp
theorem m2F (g n cap a b:Nat) (xs:List Int) (hl:xs.length=n) (hn:n≤16) (hab:a+13≤b) (hb:b≤n) (hnd:xs.Nodup):
 a0G prog 215 #[slU g n cap,.int .i64 a,.int .i64 b] [f0V g n cap xs] (b0P (fun y:Bool=>y=true→Srt a b xs) (fun y=> .bool y) (fun _=> [f0V g n cap xs])):=by
 refine en func215 ntmps215 fun R w0=> ?_;refine go 11 ?_;rw[show(a:Int)+1=((a+1:Nat):Int) by omega];refine go 8 ?_;refine a0V (X:=Unit) (fun _=> [(0,slU g n cap),(1,.int .i64 a),(2,.int .i64 b),(7,.int .i64 ((a+1:Nat):Int)),(8,.int .i64 0)]) (fun _=> [f0V g n cap xs,R]) (fun _=>0) () gSu gSp ?_;rintro⟨⟩ m0 hm0
 try simp only at hm0
 try dsimp only
 skip;refine go 12 ?_;refine j0D (X:= {i:Nat // a+1≤i∧i≤b∧Srt a i xs}) (fun y=> [(0,slU g n cap),(1,.int .i64 a),(2,.int .i64 b),(7,.int .i64 y.1)]) (fun _=> [f0V g n cap xs,R]) ?_ ?_
 ·refine go 1 ?_;refine a0V (X:= {i:Nat // a+1≤i∧i≤b∧Srt a i xs}) (fun y=> [(0,slU g n cap),(1,.int .i64 a),(2,.int .i64 b),(7,.int .i64 y.1)]) (fun _=> [f0V g n cap xs,R]) (fun y=>b-y.1) ⟨a+1,Nat.le_refl _,by omega,fun p q _ _ _=>by omega⟩ gSu gSp ?_;rintro⟨i,hi1,hi2,hs⟩ m2 hm2
  try simp only at hm2
  try dsimp only
  skip;refine go 2 ?_;by_cases hib:i<b
  ·refine tl 13 ?_;refine go 7 ?_;refine n0H (wg rfl rfl rfl (wTT gT)) (a0X Sc.o rfl gFd (d0C rfl (by omega))) ?_;refine go 4 ?_;refine n0H (wg rfl rfl rfl (wTT gT)) (a0X Sc.o rfl gFd (d0C (i:=i-1) (by omega) (by omega))) ?_;refine go 2 ?_;refine b0X rfl Hb.o rfl (v0Z _ _) gSp ?_;refine ns ?_;refine go 4 ?_;refine a0O rfl (fun hb32=> ?_) (fun hb32=> ?_)
   ·have hgt:xat xs (i-1)<xat xs i:=by
     have h1: ¬xat xs i<xat xs (i-1):=by simpa using hb32
     have h2:=c1N hnd (show i<xs.length by omega) (show i-1<xs.length by omega) (by omega);omega
    refine go 8 ?_;rw[show(i:Int)+1=((i+1:Nat):Int) by omega];exact rd idh (⟨i+1,by omega,by omega,hs.push fun _=>hgt⟩)
   ·refine go 1 ?_;exact me idh (⟨i,hi1,hi2,hs⟩)
  ·refine tl 13 ?_;refine go 21 ?_;exact me idh (⟨i,hi1,hi2,hs⟩)
 rintro⟨i,hi1,hi2,hs⟩;dsimp only;refine go 7 ?_;rw[show((i:Int) == (b:Int))=decide (i=b) by rw[Bool.eq_iff_iff];simp;omega];refine go 1 ?_;refine a0O rfl (fun hb37=> ?_) (fun hb37=> ?_)
 ·have hib:i=b:=of_decide_eq_true hb37;refine go 5 ?_;exact rE idh true (fun _=>hib▸hs)
 ·refine go 17 ?_;exact rE idh false (fun h=>(by cases h))
theorem s2Q (g n cap:Nat) (hn:n≤16): ∀(k a b lim:Nat) (xs:List Int),xs.length=n→a≤b→b≤n→b<a+k→b≤a+lim+12→lim≤64→xs.Nodup→(∀i,0<a→a≤i→i<b→xat xs (a-1)<xat xs i)→
 a0G prog 179 #[slU g n cap,.int .i64 a,.int .i64 b,.int .i64 lim] [f0V g n cap xs] (b0P (fun ys:List Int=>SP a b xs ys∧Srt a b ys) (fun _=> .tuple #[]) (fun ys=> [f0V g n cap ys])):=by
 intro k
 induction k with
 |zero=>intro a b lim xs hl hab hb hk;omega
 |succ k ih=>
  intro a b lim xs hl hab hb hk hlim hlm hnd hsep;refine en func179 ntmps179 fun R w0=> ?_;refine go 11 ?_;refine a0V (X:= {y:Nat×Nat×Nat×Bool×Bool×List Int // Pq a b xs y.1 y.2.1 y.2.2.2.2.2∧y.2.1≤y.1+y.2.2.1+12∧y.2.2.1≤lim}) (fun y=> [(0,slU g n cap),(1,.int .i64 y.1.1),(2,.int .i64 y.1.2.1),(3,.int .i64 y.1.2.2.1),(8,.bool y.1.2.2.2.1),(9,.bool y.1.2.2.2.2.1)]) (fun y=> [f0V g n cap y.1.2.2.2.2.2,R]) (fun y=>y.1.2.1-y.1.1) ⟨(a,b,lim,true,true,xs),Pq.new hab hsep,hlim,Nat.le_refl _⟩ gSu gSp ?_;rintro⟨⟨c,d,lm,wb,wp,ys⟩,hq,hll,hlm2⟩ m0 hm0
  try simp only at hm0
  try dsimp only
  dsimp only at hq hll hlm2;have hle:=hq.le;have hyl:=hq.sp.len;have hyn:=hq.sp.nodup hnd;refine go 8 ?_;rw[show(d:Int)- (c:Int)=((d-c:Nat):Int) by omega];refine go 8 ?_;refine a0O rfl (fun hb23=> ?_) (fun hb23=> ?_)
  ·refine ce 5 (r2D g n cap c d ys (by omega) (by omega) (by omega) (by omega) hyn) ?_;rintro zs ⟨h1,h2⟩;refine ns ?_;refine go 2 ?_;exact rE idh zs ⟨hq.sp.trans (h1.mono hle.1 hle.2.2),hq.done zs h1 h2⟩
  ·have hlen:12<d-c:=by have:=of_decide_eq_false hb23;omega
   refine go 12 ?_;refine j0D (X:= {y:Nat×List Int // Pq a b xs c d y.2∧d≤c+y.1+13∧y.1≤lim}) (fun y=> [(0,slU g n cap),(1,.int .i64 c),(2,.int .i64 d),(3,.int .i64 y.1.1),(8,.bool wb),(9,.bool wp),(10,.int .i64 ((d-c:Nat):Int))]) (fun y=> [f0V g n cap y.1.2,R]) ?_ ?_
   ·refine go 6 ?_;refine a0O rfl (fun hb35=> ?_) (fun hb35=> ?_)
    ·refine ce 5 (w2E g n cap c d ys (by omega) hn (by omega) (by omega)) ?_;rintro zs h1;refine ns ?_;refine go 7 ?_;rw[show(lm:Int)-1=((lm-1:Nat):Int) by omega];exact me idh (⟨(lm-1,zs),hq.mix hnd (by omega) h1,by(show d≤c+(lm-1)+13);omega,by(show lm-1≤lim);omega⟩)
    ·refine go 1 ?_;exact me idh (⟨(lm,ys),hq,by(show d≤c+lm+13);omega,hlm2⟩)
   rintro⟨⟨l2,y2⟩,hq2,hl2,hl3⟩;dsimp only at hq2 hl2 hl3 ⊢;have hyl2:=hq2.sp.len;have hyn2:=hq2.sp.nodup hnd;refine ce 5 (w2C g n cap c d y2 (by omega) hn (by omega) (by omega)) ?_;rintro⟨p,hint⟩ ⟨hp,hh⟩;refine ns ?_;dsimp only at hp hh ⊢;refine go 14 ?_;refine b0S rfl (by rcases hh with rfl|rfl<;>rfl) ?_;refine go 2 ?_;refine r0I ([(0,slU g n cap),(1,.int .i64 c),(2,.int .i64 d),(3,.int .i64 l2),(10,.int .i64 ((d-c:Nat):Int)),(11,.int .i64 p)]) ([f0V g n cap y2,R]) ?_ ?_
   ·refine go 1 ?_;rcases Bool.eq_false_or_eq_true wb with hwb|hwb
    ·rcases Bool.eq_false_or_eq_true wp with hwp|hwp
     ·refine go 11 ?_;refine a0O rfl (fun hb68=> ?_) (fun hb68=> ?_)
      ·refine ce 5 (m2F g n cap c d y2 (by omega) hn (by omega) (by omega) hyn2) ?_;rintro y hy;refine ns ?_;refine go 2 ?_;refine a0O rfl (fun hb72=> ?_) (fun hb72=> ?_)
       ·exact rE idh y2 ⟨hq2.sp,hq2.done y2 (SP.refl _ _ _) (hy hb72)⟩
       ·refine go 1 ?_;exact h0W idh gSu gSp
      ·refine go 1 ?_;exact h0W idh gSu gSp
     ·refine go 13 ?_;exact h0W idh gSu gSp
    ·refine go 13 ?_;exact h0W idh gSu gSp
   refine r0I ([(0,slU g n cap),(1,.int .i64 c),(2,.int .i64 d),(3,.int .i64 l2),(10,.int .i64 ((d-c:Nat):Int)),(11,.int .i64 p)]) ([f0V g n cap y2,R]) ?_ ?_
   ·refine go 1 ?_;by_cases hc0:0<c
    ·refine tl 12 ?_;refine go 7 ?_;refine n0H (wg rfl rfl rfl (wTT gT)) (a0X Sc.o rfl gFd (d0C (i:=c-1) (by omega) (by omega))) ?_;refine go 3 ?_;refine n0H (wg rfl rfl rfl (wTT gT)) (a0X Sc.o rfl gFd (d0C rfl (by omega))) ?_;refine go 2 ?_;refine b0X rfl Hb.o rfl (v0Z _ _) gSp ?_;refine ns ?_;refine go 4 ?_;refine b0S rfl (by have:=hq2.sep p hc0 hp.1 hp.2;simpa using this) ?_;refine go 1 ?_;exact h0W idh gSu gSp
    ·refine tl 12 ?_;refine go 20 ?_;exact h0W idh gSu gSp
   refine ce 6 (y2M g n cap c d p y2 (by omega) (by omega) (by omega) (by omega) hp hyn2) ?_;rintro⟨m,al,zs⟩ ⟨h1,hm⟩;refine ns ?_;dsimp only at h1 hm ⊢;have hmm:=hm.1;have hmd:=hm.2.1;have hqz:=hq2.mix hnd (by omega) h1;have hzl:=hqz.sp.len;have hzn:=hqz.sp.nodup hnd;refine go 39 ?_;refine a0O rfl (fun hb113=> ?_) (fun hb113=> ?_)
   ·refine ce 14 (ih c m l2 zs (by omega) (by omega) (by omega) (by omega) (by omega) (by omega) hzn (hqz.sepL hm)) ?_;rintro ws ⟨g1,g2⟩;refine ns ?_;refine go 7 ?_;rw[show(m:Int)+1=((m+1:Nat):Int) by omega];refine e1A idh (⟨(m+1,d,l2,decide (((d-c:Nat):Int)/8≤(m:Int)- (c:Int)),al,ws),hqz.left hnd (by omega) hm g1 g2,by(show d≤m+1+l2+12);omega,hl3⟩) (by(show d- (m+1)<_);omega) gSu gSp
   ·refine go 14 ?_;rw[show(m:Int)+1=((m+1:Nat):Int) by omega];refine ce 1 (ih (m+1) d l2 zs (by omega) (by omega) (by omega) (by omega) (by omega) (by omega) hzn hm.sepR) ?_;rintro ws ⟨g1,g2⟩;refine ns ?_;refine go 6 ?_;refine e1A idh (⟨(c,m,l2,decide (((d-c:Nat):Int)/8≤(d:Int)- (m:Int)),al,ws),hqz.right hnd (by omega) hm g1 g2,by(show m≤c+l2+12);omega,hl3⟩) (by(show m-c<_);omega) gSu gSp
section
section
variable {ν:Type} {ev:ν→Value}
theorem w2F (l b1 b:Nat) (m:List (Int×ν)) (J:List Int→a0E) (hy: ∀acc k,(∃rest,(m.map (·.1)).Perm (acc++k::rest))→b1M prog l #[u4 k] [J acc] (fun e L'=>e= .returned (.bool true)∧L'= [J (acc++ [k])])):
 a0G prog 136 #[.func (.yield l) #[] #[],ptr b1] [J [],pts b1 (.cells #[.map (some b)] 57 (0,0)),b0K b e0J ev m]
  (b0P (fun acc:List Int=>acc.Perm (m.map (·.1))) (fun _=> .tuple #[]) (fun acc=> [J acc,b0K b e0J ev m])):=by
 refine en func136 ntmps136 fun R w0=> ?_;refine go 3 ?_;refine u1U (ek:=e0J) (ev:=ev) (m:=m) c0Y.o rfl gFd (fun r=> ?_);refine go 3 ?_;refine a0V (X:= {y:List Int×List (Int×ν)×Option (Int×ν) // (m.map (·.1)).Perm (y.1++y.2.1.map (·.1))}) (fun y=> [(0,.func (.yield l) #[] #[]),(5,ptr r)]) (fun y=> [J y.1.1,t0R r b e0J ev m y.1.2.1 y.1.2.2,R]) (fun y=>y.1.2.1.length) ⟨([],m,none),List.Perm.refl _⟩ gSu gSp ?_;rintro⟨⟨acc,todo,cur⟩,hp⟩ m0 hm0
 try simp only at hm0
 try dsimp only
 dsimp only at hp;refine go 2 ?_;refine b2U (ek:=e0J) (ev:=ev) rfl gFd (fun z todo' hz hn=> ?_);refine a0D (s2N rfl) ?_;refine go 3 ?_;refine a0O rfl (fun hb7=> ?_) (fun hb7=> ?_)
 ·obtain⟨k,rfl⟩:=Option.isSome_iff_exists.1 hb7;have hlen:todo.length=todo'.length+1:=by have:=hz.length_eq;simpa using this
  have hp2:(m.map (·.1)).Perm (acc++k.1::todo'.map (·.1)):=hp.trans (List.Perm.append_left _ (by simpa using hz.map (·.1)));refine go 5 ?_;refine a0D (b2V (ek:=e0J) (ev:=ev) rfl gFd) ?_;refine go 5 ?_;refine b1N ?_;refine u0G (d0H rfl) ?_;refine u0G (d0H rfl) ?_;refine i1S rfl rfl (hy acc k.1 ⟨_,hp2⟩) gSp ?_;refine ns ?_;refine u0G (v0A rfl) ?_;refine s1V ?_;refine go 3 ?_;exact rd idh (⟨(acc++ [k.1],todo',some k),by(show(m.map (·.1)).Perm (acc++ [k.1]++todo'.map (·.1)));rw[List.append_assoc];exact hp2⟩)
 ·refine go 1 ?_;have hz0:z=none:=by cases z with|none=>rfl|some _=>cases hb7
  have ht:=hn hz0;subst ht;have hp3:acc.Perm (m.map (·.1)):=(by simpa using hp:(m.map (·.1)).Perm acc).symm;refine b0F (fun w h=>u1T ((show Fnd _ (t0R r b e0J ev m todo' z) _ from gFd).sat h)) ?_;exact fE acc hp3
end
end
end Go.Proofs.Q
namespace Go.Proofs.Q
open Go Go.Sl Tryz
instance:Ag prog 244 2:=⟨kr⟩
instance:Fl prog 244 0 0:=⟨kr⟩
instance:Hb prog 205:=⟨kr⟩
instance:Hb prog 255:=⟨kr⟩
instance:Hb prog 256:=⟨kr⟩
instance:Sc prog 241:=⟨kr⟩
instance:Tsl prog 241 244 2:=⟨kr⟩
instance:Sz prog 241 1:=⟨kr⟩
instance:Sz prog 244 2:=⟨kr⟩
instance:Ttb prog 244 16:=⟨kr⟩
instance:Zr prog 241 (.slice none 0 0):=⟨kr⟩
instance:Zr prog 244 (.agg #[.int .i64 0,.int .i64 0]):=⟨kr⟩
instance:Pl prog 244 ([(0,1),(1,1)],.agg #[.int .i64 0,.int .i64 0]):=⟨kr⟩
instance:Hb prog 31:=⟨kr⟩
instance:Hb prog 32:=⟨kr⟩
instance:Hb prog 41:=⟨kr⟩
instance:Pl prog 34 ([(0,1),(1,1),(2,1),(3,1)],.agg #[.slice none 0 0,.int .i64 0,.int .i64 0,.int .i64 0]):=⟨kr⟩
instance:Pl prog 37 ([(0,1),(1,4)],.agg #[.pointer none,.slice none 0 0,.int .i64 0,.int .i64 0,.int .i64 0]):=⟨kr⟩
theorem F.pt35:Sl.g1G prog 35=true:=by kernel_rfl
theorem F.pt55:Sl.g1G prog 55=true:=by kernel_rfl
theorem F.pt56:Sl.g1G prog 56=true:=by kernel_rfl
instance:Hb prog 84:=⟨kr⟩
instance:Hb prog 85:=⟨kr⟩
instance:Hb prog 86:=⟨kr⟩
instance:Hb prog 87:=⟨kr⟩
instance:Pl prog 154 ([(0,1),(1,1)],.agg #[.slice none 0 0,.int .i64 0]):=⟨kr⟩
instance:Pl prog 194 ([(0,1),(1,1)],.agg #[.pointer none,.pointer none]):=⟨kr⟩
instance:Pl prog 210 ([(0,1),(1,1),(2,1)],.agg #[.pointer none,.int .i64 0,.map none]):=⟨kr⟩
instance:Pl prog 59 ([(0,1),(1,1),(2,1),(3,1),(4,1)],.agg #[.pointer none,.pointer none,.map none,.int .u32 0,.int .u32 0]):=⟨kr⟩
instance:Pl prog 92 ([(0,1),(1,1),(2,1),(3,1),(4,1),(5,1),(6,1)],.agg #[.pointer none,.pointer none,.pointer none,.map none,.map none,.slice none 0 0,.int .i64 0]):=⟨kr⟩
instance:Hb prog 99:=⟨kr⟩
instance:Pl prog 173 ([(0,1),(1,1),(2,1),(3,1)],.agg #[.slice none 0 0,.bool false,.int .i64 0,.bool false]):=⟨kr⟩
instance:Pl prog 175 ([(0,1),(1,1)],.agg #[.string ByteArray.empty,.string ByteArray.empty]):=⟨kr⟩
instance:Sz prog 171 1:=⟨kr⟩
instance:Ttb prog 175 32:=⟨kr⟩
instance:Zr prog 175 (.agg #[.string ByteArray.empty,.string ByteArray.empty]):=⟨kr⟩
instance:Hb prog 58:=⟨kr⟩
instance:Hb prog 59:=⟨kr⟩
instance:Hb prog 64:=⟨kr⟩
instance:Hb prog 65:=⟨kr⟩
instance:Hb prog 66:=⟨kr⟩
instance:Hb prog 68:=⟨kr⟩
instance:Hb prog 69:=⟨kr⟩
instance:Hb prog 143:=⟨kr⟩
instance:Hb prog 144:=⟨kr⟩
instance:Hb prog 92:=⟨kr⟩
instance:Hb prog 98:=⟨kr⟩
instance:Pl prog 50 ([(0,1),(1,1),(2,1),(3,1),(4,1),(5,1)],.agg #[.int .u32 0,.int .u32 0,.bool false,.int .i64 0,.int .i64 0,.int .u32 0]):=⟨kr⟩
instance:Hb prog 137:=⟨kr⟩
instance:Hb prog 138:=⟨kr⟩
instance:Hb prog 93:=⟨kr⟩
instance:Sc prog 165:=⟨kr⟩
instance:Fl prog 59 3 3:=⟨kr⟩
instance:Fl prog 59 4 4:=⟨kr⟩
instance:Hb prog 116:=⟨kr⟩
instance:Hb prog 181:=⟨kr⟩
instance:Hb prog 117:=⟨kr⟩
end Go.Proofs.Q
namespace Go.Proofs.Q
open Go.Sl Go.Sb Tryz
section
attribute [local semireducible] Sl.a0P Sl.OW Sl.CW Sl.OS Sl.OM Sl.OMf Sl.KM
section
variable {c:Cx} {op:Oper} {env:List (Nat×Value)} {L M:List a0E} {a:Ad} {s:St} {v:Value}
theorem m1U (hL:Fnd L (HL a s) M) (h: ∀by_ gv gc o,Sl.a0P c op env (e0K a by_ o s.log s.depth::(TT a by_ gv gc s++M)) v):Sl.a0P c op env L v:=by
 intro act w hh;obtain⟨x,hs⟩:=g0K.1 (hL.sat hh.sat);have h1:=b0M.1 hs;obtain⟨by_,gv,gc,o⟩:=x;simp only[hlV,List.cons_append]at h1;have h2:=(u0D.1 (h1.perm (List.Perm.swap _ _ _))).2;exact h by_ gv gc o act w ⟨hh.size,hh.slots,hh.defers,h2,hh.like⟩
end
section
variable {α:Type} {m:M α} {s t:St} {x:St×Car α}
theorem x1C {u:Unit} (h:f0P m (s,.start)=(.ok u,x)): ∃a,x=(x.1,.done a)∧m s=(.ok a,x.1):=by
 unfold f0P at h;simp only at h;split at h<;>cases h
 rename_i e;exact⟨_,rfl,e⟩
theorem r1H {e:Int} (h:f0P m (s,.start)=(.err e,x)):x=(x.1,.lost)∧m s=(.err e,x.1):=by
 unfold f0P at h;simp only at h;split at h<;>cases h
 rename_i e;exact⟨rfl,e⟩
theorem f1W:(f0P m (s,.start)).1≠ .big↔(m s).1≠ .big:=by
 unfold f0P;simp only;split<;>(rename_i e;rw[e];simp)
theorem m0W {a:α} (h:m s=(.ok a,t)):f0P m (s,.start)=(.ok (),(t,.done a)):=by unfold f0P;simp only[h]
theorem c0S {e:Int} (h:m s=(.err e,t)):f0P m (s,.start)=(.err e,(t,.lost)):=by unfold f0P;simp only[h]
end
def u0Y {α:Type} (A0:a0E) (A1:α→a0E):Car α→a0E
 | .start=>A0
 | .done a=>A1 a
 | .lost=>b0E []
abbrev RSC {α:Type} (W:World) (a:Ad) (A0:a0E) (A1:α→a0E) (x:St×Car α):List a0E:=RS W a x.1++ [u0Y A0 A1 x.2]
abbrev f0G (b:Nat) (a:Ad):a0E:=pts b (.cells #[ptr a.core] 35 (0,0))
abbrev f0W (b:Nat) (n:Int):a0E:=pts b (.cells #[.int .i64 n] 3 (0,0))
abbrev j0V (b:Nat) (n:Int):a0E:=pts b (.cells #[.int .u32 n] 47 (0,0))
abbrev g2T (b:Nat) (g:FuncId) (cap:List Value):a0E:=pts b (.cells #[.func (.func g) #[] cap.toArray] 1 (0,0))
theorem r2E (n:Int):PB (o0R n):=s0W _ (fun s=> {s with keep:=max n 0}) fun _=>rfl
theorem r2F (more:Nat):PB (Go.Sb.k0C more):=fun s=>by
 unfold Go.Sb.k0C;refine b0L (r2E _) (fun _ t=> ?_) s;split<;>rfl
abbrev r0U {α:Type} (W:World) (a:Ad) (A0:a0E) (A1:α→a0E) (g:FuncId) (cap:List Value) (bits:Nat) (m:M α):Prop:= ∀t:St,t.bits=bits→(m t).1≠ .big→
 a0G prog g cap.toArray (RS W a t++ [A0]) (Ran fT (RSC W a A0 A1) i0S (f0P m (t,.start)))
abbrev g2U (a:Ad) (A0:a0E) (b0 b1 b2:Nat) (more:Nat) (g:FuncId) (cap:List Value):a0E:=b0E [f0G b0 a,f0W b1 more,g2T b2 g cap,A0]
attribute [local irreducible] Sl.a0P Sl.OW Sl.CW Sl.OS Sl.OM Sl.OMf Sl.KM
theorem m2G {α:Type} (W:World) (a:Ad) (A0:a0E) (A1:α→a0E) (b0 b1 b2 more:Nat) (g:FuncId) (cap:List Value) (m:M α) (s:St) (hb:f0H prog g=true) (hmo:more≤1000) (hvl:s.vols.length≤1000)
 (hg:r0U W a A0 A1 g cap s.bits m) (hnb:(e0M more m s).1≠ .big):
 a0G prog 116 #[ptr b0,ptr b1,ptr b2] (RS W a s++ [g2U a A0 b0 b1 b2 more g cap]) (Ran fT (RSC W a (g2U a A0 b0 b1 b2 more g cap) A1) i0S (f0P (e0M more m) (s,.start))):=by
 have hnb0:(Go.Sb.k0C more s).1≠ .big:=c0I hnb;have hpb:(Go.Sb.k0C more s).2.bits=s.bits:=r2F more s;obtain⟨room,hroom⟩: ∃r:Int,r=2*((s.vols.length+more:Nat):Int):=⟨_,rfl⟩;have ea:Go.Sb.k0C more s=a0B (o0R room) (fun _ s=>if 0<more∧(a0Y s:Int)<room then(.err 8,s)else(.ok (),s)) s:=by unfold Go.Sb.k0C;rw[hroom]
 have em:e0M more m s=a0B (Go.Sb.k0C more) (fun _=>m) s:=rfl;refine ns ?_;by_cases hm0:more=0
 ·refine en func116 ntmps116 fun R w0=> ?_;refine l0C (show Fnd _ (b0E [f0G b0 a,f0W b1 more,g2T b2 g cap,A0]) _ from gFd) ?_;refine ns ?_;refine go 5 ?_;refine b0V (j0R Sc.o rfl gFd rfl) ?_;refine b0V (m1U gFd fun by_ gv gc o=>by rw[d0B];simp only[List.cons_append,List.nil_append];exact k1Z c0Y.o rfl gFd) ?_;refine go 3 ?_;rw[show 2*(((s.vols.length:Nat):Int)+((more:Nat):Int))=room by rw[hroom];omega];refine go 8 ?_;refine a0D (j0R Sc.o rfl gFd rfl) ?_;refine go 1 ?_;refine a0U rfl Hb.o rfl (m1B W a s room (by rw[ea]at hnb0;exact c0I hnb0)) gSp (fun u t ho=> ?_) (fun e t ho=>by refine pn ?_;(have h9:Go.Sb.k0C more s=(.err e,t):=(by rw[ea];exact a0F ho);refine b0F (fun w h=>c0C h) ?_;exact b0W (c0S (em.trans (a0F h9))) idh gSp));refine ns ?_;refine go 1 ?_;have h9:Go.Sb.k0C more s=(.ok (),t):=by rw[ea,a0A ho,if_neg (by omega)]
  rw[h9]at hpb;refine go 22 ?_;refine a0U rfl hb rfl (hg t hpb (p0H hnb h9)) gSp (fun v ⟨t',oc⟩ ho=> ?_) (fun e t ho=>by refine pn ?_;(obtain⟨t1,t2⟩:=t;obtain⟨hx,hm⟩:=r1H ho;obtain rfl:t2= .lost:=congrArg Prod.snd hx;have hm:_=(Out.err e,t1):=hm;exact b0W (c0S (em.trans ((a0A h9).trans hm))) idh gSp));refine ns ?_;refine go 1 ?_;obtain⟨y,hx,hm⟩:=x1C ho;obtain rfl:oc= .done y:=congrArg Prod.snd hx;have hm:_=(Out.ok y,t'):=hm;simp only[RSC,u0Y,List.cons_append,List.nil_append];exact fR (s:=(t',.done y)) (m0W (em.trans ((a0A h9).trans hm)))
 ·have hm1:0<more:=by omega
  refine en func116 ntmps116 fun R w0=> ?_;refine l0C (show Fnd _ (b0E [f0G b0 a,f0W b1 more,g2T b2 g cap,A0]) _ from gFd) ?_;refine ns ?_;refine go 5 ?_;refine b0V (j0R Sc.o rfl gFd rfl) ?_;refine b0V (m1U gFd fun by_ gv gc o=>by rw[d0B];simp only[List.cons_append,List.nil_append];exact k1Z c0Y.o rfl gFd) ?_;refine go 3 ?_;rw[show 2*(((s.vols.length:Nat):Int)+((more:Nat):Int))=room by rw[hroom];omega];refine go 8 ?_;refine a0D (j0R Sc.o rfl gFd rfl) ?_;refine go 1 ?_;refine a0U rfl Hb.o rfl (m1B W a s room (by rw[ea]at hnb0;exact c0I hnb0)) gSp (fun u t ho=> ?_) (fun e t ho=>by refine pn ?_;(have h9:Go.Sb.k0C more s=(.err e,t):=(by rw[ea];exact a0F ho);refine b0F (fun w h=>c0C h) ?_;exact b0W (c0S (em.trans (a0F h9))) idh gSp));refine ns ?_;refine go 1 ?_;have hok:=ho;refine go 10 ?_;refine b0Z (j0R Sc.o rfl gFd rfl) (wg rfl rfl rfl (wTT gT)) ?_;refine cg 1 (f2L a t) ?_;refine go 5 ?_;refine a0O rfl (fun hb28=> ?_) (fun hb28=> ?_)
  ·have h9:Go.Sb.k0C more s=(.err 8,t):=by rw[ea,a0A hok,if_pos ⟨hm1,of_decide_eq_true hb28⟩]
   refine b0U (fun w h=>c0C h) ?_;refine go 1 ?_;refine c0A rfl Hb.o rfl (c0M 8) gSp ?_;refine ns ?_;refine pn ?_;exact b0W (c0S (em.trans (a0F h9))) idh gSp
  ·have h9:Go.Sb.k0C more s=(.ok (),t):=by rw[ea,a0A hok,if_neg (fun h=>of_decide_eq_false hb28 h.2)]
   rw[h9]at hpb;refine go 4 ?_;refine a0U rfl hb rfl (hg t hpb (p0H hnb h9)) gSp (fun v ⟨t',oc⟩ ho=> ?_) (fun e t ho=>by refine pn ?_;(obtain⟨t1,t2⟩:=t;obtain⟨hx,hm⟩:=r1H ho;obtain rfl:t2= .lost:=congrArg Prod.snd hx;have hm:_=(Out.err e,t1):=hm;exact b0W (c0S (em.trans ((a0A h9).trans hm))) idh gSp));refine ns ?_;refine go 1 ?_;obtain⟨y,hx,hm⟩:=x1C ho;obtain rfl:oc= .done y:=congrArg Prod.snd hx;have hm:_=(Out.ok y,t'):=hm;simp only[RSC,u0Y,List.cons_append,List.nil_append];exact fR (s:=(t',.done y)) (m0W (em.trans ((a0A h9).trans hm)))
end
theorem l0O {L N M:List a0E} (hL:b0A L N M) (w:World) (h:Sat w L):Sat w (b0E N::M):=b0M.2 (h.perm hL)
theorem h1J {α:Type} {m:M α} {s t:St} {c:Car α} {e:Int} (h:o0J (f0P m) (s,.start)=(.ok e,(t,c))):(∃a,c= .done a∧e=0)∨(c= .lost∧e≠0):=by
 unfold o0J o0I a0B f0P at h;simp only at h;split at h<;>rename_i h1
 ·simp only[Prod.mk.injEq,Out.ok.injEq]at h;obtain⟨rfl,h2,h3⟩:=h;split at h1
  ·cases h1
  ·rename_i hd;cases hm:m {s with depth:=s.depth+1} with
   |mk o u=>
    rw[hm]at h1;cases o with
    |ok a=>
     simp only at h1;split at h1
     ·cases h1
     ·cases h1;exact .inl ⟨a,h3.symm,rfl⟩
    |err e'=>
     simp only at h1;split at h1
     ·cases h1
     ·rename_i h4;cases h1;exact .inr ⟨h3.symm,fun h5=>h4 (.inr h5)⟩
    |big=>cases h1
 ·cases h
 ·cases h
theorem m0T {α:Type} {m:M α} {s:St} {x:St×Car α} {e:Int} :o0J (f0P m) (s,.start)≠(.err e,x):=by
 unfold o0J a0B;intro h;cases ho:o0I (f0P m) (s,.start)with
 |mk o u=>
  rw[ho]at h;cases o with
  |ok a=>cases h
  |err e'=>exact m1C _ _ _ _ ho
  |big=>cases h
theorem t0A {α:Type} {m:M α} {s t:St} {c:Car α} {e:Int} (h:o0J (f0P m) (s,.start)=(.ok e,(t,c))):i0K m s=(.ok (e,c),t):=by unfold i0K t1U;rw[h]
theorem d1L {α:Type} {m:M α} {s:St} (h:(i0K m s).1≠ .big):(o0J (f0P m) (s,.start)).1≠ .big:=by
 intro e;apply h;unfold i0K t1U;cases ho:o0J (f0P m) (s,.start)with
 |mk o u=>
  rw[ho]at e;simp only at e;subst e;rfl
theorem w0A {α:Type} (W:World) (a:Ad) (A0:a0E) (A1:α→a0E) (more:Nat) (g:FuncId) (cap:List Value) (m:M α) (s:St) (hb:f0H prog g=true) (hmo:more≤1000) (hvl:s.vols.length≤1000)
 (hg:r0U W a A0 A1 g cap s.bits m) (hnb:(i0K (e0M more m) s).1≠ .big):
 a0G prog 64 #[ptr a.core,.int .i64 more,.func (.func g) #[] cap.toArray] (RS W a s++ [A0]) (Ran fT (RSC W a A0 A1) a0H (o0J (f0P (e0M more m)) (s,.start))):=by
 have hn:=d1L hnb;refine ns ?_;refine en func64 ntmps64 fun R w0=> ?_;refine go 2 ?_;refine bx fun b3=> ?_;refine bx fun b4=> ?_;refine bx fun b5=> ?_;refine go 8 ?_;refine a0D (j0R Sc.o rfl gFd rfl) ?_;refine go 1 ?_;refine e0X (l0O (N:= [f0G b3 a,f0W b4 more,g2T b5 g cap,A0]) gSp) ?_;refine a0U rfl Hb.o rfl (t0V (C:=Car α) W a (u0Y (g2U a A0 b3 b4 b5 more g cap) A1) 116 [ptr b3,ptr b4,ptr b5] (f0P (e0M more m)) s .start Hb.o hn (fun h=>m2G W a A0 A1 b3 b4 b5 more g cap m {s with depth:=s.depth+1} hb hmo hvl hg (f1W.1 h))) gSp (fun e ⟨t,oc⟩ ho=> ?_) (fun e t ho=>by refine pn ?_;(exact(m0T ho).elim));refine ns ?_;refine go 3 ?_;rcases h1J ho with ⟨y,rfl,rfl⟩| ⟨rfl,_⟩
 ·simp only[u0Y];exact n0M ho idh rfl rfl gSp
 ·simp only[u0Y];exact n0M ho idh rfl rfl gSp
theorem a2B {s:St} {v:Int} (h:(p0Y v s).1≠ .big):s.log.length<1000000000:=t0W h fun h'=>by simp[p0Y,a0B,back,h']
theorem g2V {s:St} (v:Int) (h:s.log.length<1000000000):p0Y v s=(.ok (),{s with log:=bk s.depth s.log (.next s.next),next:=v}):=by
 simp[p0Y,a0B,back,show ¬1000000000≤s.log.length by omega]
theorem m2H (W:World) (a:Ad) (s:St) (x:Ent) (hnb:(u0I x s).1≠ .big):a0G prog 138 #[ptr a.core,e0E x] (RS W a s) (Ran fT (RS W a) e0J (u0I x s)):=by
 obtain⟨y,hy⟩: ∃y:Ent,y= {x with id:=s.next,born:=s.epoch} :=⟨_,rfl⟩;have e0:u0I x s=a0B (p0Y (m0Z (s.next+1))) (fun _=>a0B (m0H y) fun _=>ret y.id) s:=by rw[hy];rfl
 have hn:=a2B (show(p0Y (m0Z (s.next+1)) s).1≠ .big by rw[e0]at hnb;exact c0I hnb);rw[a0A (g2V _ hn)]at e0;have hyid:y.id=s.next:=by rw[hy]
 refine en func138 ntmps138 fun R w0=> ?_
 try simp only[e0E]
 refine go 2 ?_;refine bx fun b3=> ?_;refine go 4 ?_;refine mx (.r 0 9 (.hard 9 (.soft 10 (.hard 11 .done)))) [HL a s] ?_;refine go 3 ?_;refine d0A rfl (j0R Sc.o rfl gFd rfl) ?_;refine go 3 ?_;refine d0A rfl (j0R Sc.o rfl gFd rfl) ?_;refine go 11 ?_;refine b0F (L':=s0M b3 y::(RS W a s++ [R])) (fun w h=>by rw[hy];exact h.re gSp) ?_;refine ns ?_;refine go 2 ?_;refine e0C gFd fun by_ gv gc o hg hok=> ?_;simp only[d0B,o0F,c0R,List.cons_append,List.nil_append];refine tl 15 ?_;refine go 14 ?_;refine b0V (g1D rfl rfl) ?_;refine go 1 ?_;rw[show IntKind.u32.wrap (s.next+1)=m0Z (s.next+1)from IntKind.wrap_u32 _];refine ce 0 (y1Z a by_ o s.log s.depth s.next (m0Z (s.next+1)) s.epoch hn) ?_;rintro e _;refine ns ?_;refine go 1 ?_;refine b0F (c0W (s:= {s with log:=bk s.depth s.log (.next s.next),next:=m0Z (s.next+1)}) hg hok gSp) ?_;refine go 5 ?_;refine a0U rfl Hb.o rfl (v0Y W a {s with log:=bk s.depth s.log (.next s.next),next:=m0Z (s.next+1)} y (by rw[e0]at hnb;exact c0I hnb)) gSp (fun u t ho=> ?_) (fun e t ho=>by refine pn ?_;exact kx ((by rw[e0];exact a0F ho)));refine ns ?_;refine go 9 ?_;exact rR idh (by rw[e0,a0A ho];rfl)
abbrev s1I (b:Nat) (g:FuncId) (cap:List Value):a0E:=pts b (.cells #[.func (.func g) #[] cap.toArray] 165 (0,0))
abbrev d1M (W:World) (a:Ad) (AD:a0E) (g:FuncId) (cap:List Value) (bits:Nat) (made:M Ent):Prop:= ∀t:St,t.bits=bits→(made t).1≠ .big→
 a0G prog g cap.toArray (RS W a t++ [AD]) (Ran fT (fun u=>RS W a u++ [AD]) e0E (made t))
abbrev m2I (a:Ad) (AD:a0E) (b0 b1 b2:Nat) (g:FuncId) (cap:List Value):a0E:=b0E [f0G b0 a,s1I b1 g cap,j0V b2 0,AD]
theorem g2W (W:World) (a:Ad) (AD:a0E) (b0 b1 b2:Nat) (g:FuncId) (cap:List Value) (made:M Ent) (bits:Nat) (hb:f0H prog g=true) (hg:d1M W a AD g cap bits made):
 r0U W a (m2I a AD b0 b1 b2 g cap) (fun id=>j0V b2 id) 137 [ptr b0,ptr b1,ptr b2] bits (a0B made u0I):=by
 intro s hbits hnb;refine ns ?_;refine en func137 ntmps137 fun R w0=> ?_;refine l0C (show Fnd _ (b0E [f0G b0 a,s1I b1 g cap,j0V b2 0,AD]) _ from gFd) ?_;refine ns ?_;refine mx (.r 0 2 (.hard 2 (.hard 3 (.hard 4 .done)))) [f0G b0 a,s1I b1 g cap] ?_;refine go 3 ?_;refine a0U rfl hb rfl (hg s hbits (c0I hnb)) gSp (fun x t ho=> ?_) (fun e t ho=>by refine pn ?_;(refine b0F (fun w h=>c0C h) ?_;exact b0W (c0S (a0F ho)) idh gSp));refine ns ?_;refine go 3 ?_;have h9:=ho;refine a0U rfl Hb.o rfl (m2H W a t x (p0H hnb h9)) gSp (fun id u ho=> ?_) (fun e t ho=>by refine pn ?_;(refine b0F (fun w h=>c0C h) ?_;exact b0W (c0S ((a0A h9).trans ho)) idh gSp));refine ns ?_;refine go 7 ?_;exact fR (s:=(u,.done id)) (m0W ((a0A h9).trans ho))
def z0M (p:Int×Int):Value:= .tuple #[.int .u32 p.1,.int .i64 p.2]
theorem m1V (W:World) (a:Ad) (AD:a0E) (g:FuncId) (cap:List Value) (made:M Ent) (s:St) (hb:f0H prog g=true) (hvl:s.vols.length≤1000) (hg:d1M W a AD g cap s.bits made) (hnb:(k0K made s).1≠ .big):
 a0G prog 92 #[ptr a.core,.func (.func g) #[] cap.toArray] (RS W a s++ [AD]) (Ran fT (RS W a) z0M (k0K made s)):=by
 refine ns ?_;by_cases h16:16≤s.vols.length
 ·rw[show k0K made s=(.ok (0,13),s) by unfold k0K;rw[if_pos h16]];refine en func92 ntmps92 fun R w0=> ?_;refine go 2 ?_;refine bx fun b2=> ?_;refine bx fun b3=> ?_;refine go 10 ?_;refine a0D (j0R Sc.o rfl gFd rfl) ?_;refine a0D (m1U gFd fun by_ gv gc o=>by rw[d0B];simp only[List.cons_append,List.nil_append];exact k1Z c0Y.o rfl gFd) ?_;refine go 10 ?_;exact rR idh rfl
 ·have e0:k0K made s=a0B (i0K (e0M 1 (a0B made u0I))) (fun r=>ret (if r.1=0 then(b1Z 0 r.2,0)else(0,r.1))) s:=by unfold k0K;rw[if_neg h16]
  have hn:(i0K (e0M 1 (a0B made u0I)) s).1≠ .big:=by rw[e0]at hnb;exact c0I hnb
  refine en func92 ntmps92 fun R w0=> ?_;refine go 2 ?_;refine bx fun b2=> ?_;refine bx fun b3=> ?_;refine go 10 ?_;refine a0D (j0R Sc.o rfl gFd rfl) ?_;refine a0D (m1U gFd fun by_ gv gc o=>by rw[d0B];simp only[List.cons_append,List.nil_append];exact k1Z c0Y.o rfl gFd) ?_;refine go 8 ?_;refine al fun b6=> ?_;refine go 7 ?_;refine e0X (l0O (N:= [f0G b2 a,s1I b3 g cap,j0V b6 0,AD]) gSp) ?_;refine a0U rfl Hb.o rfl (w0A W a (m2I a AD b2 b3 b6 g cap) (fun id=>j0V b6 id) 1 137 [ptr b2,ptr b3,ptr b6] (a0B made u0I) s Hb.o (by omega) hvl (g2W W a AD b2 b3 b6 g cap made s.bits hb hg) hn) gSp (fun e ⟨t,oc⟩ ho=> ?_) (fun e t ho=>by refine pn ?_;(exact(m0T ho).elim));refine ns ?_;refine go 2 ?_;have e1:=e0.trans (a0A (t0A ho))
  try simp only[RSC]
  refine go 8 ?_;refine a0O rfl (fun hb18=> ?_) (fun hb18=> ?_)
  ·have hz:e≠0:=by have h:=hb18;simp only[bne_iff_ne,ne_eq]at h;exact h
   refine go 7 ?_;exact rR idh (by rw[e1,if_neg hz];rfl)
  ·have hz:e=0:=by have h:=hb18;simp only[bne_eq_false_iff_eq]at h;exact h
   obtain⟨y,rfl,_⟩| ⟨_,h9⟩:=h1J ho
   rotate_left
   ·exact(h9 hz).elim
   simp only[u0Y];subst hz;refine go 10 ?_;exact rR idh (by rw[e1,if_pos rfl];rfl)
theorem x1D (W:World) (a:Ad) (b0:Nat) (size:Int) (bits:Nat):d1M W a (f0W b0 size) 93 [ptr b0] bits (ret {g0L with size:=size}):=by
 intro s hbits hnb;have hs1:(f0U {g0L with size:=size}).toArray.size=6:=rfl;refine ns ?_;refine en func93 ntmps93 fun R w0=> ?_;refine go 2 ?_;refine al fun b1=> ?_;refine go 5 ?_;refine a0D (s0P (cs:=f0U {g0L with size:=size}) Pl.o rfl (by rfl)) ?_;refine go 3 ?_;exact k0A rfl idh (RV.agg Ag.o rfl (by simp[Value.cells,f0U]) (a0I (by simp[Value.cells,f0U])) RV.nil) rfl gSp
theorem x1E (W:World) (a:Ad) (s:St) (size:Int) (hvl:s.vols.length≤1000) (hnb:(f0T size s).1≠ .big):a0G prog 38 #[ptr a.core,.int .i64 size] (RS W a s) (Ran fT (RS W a) z0M (f0T size s)):=by
 by_cases h1:size<1
 ·rw[show f0T size s=(.ok (0,4),s) by unfold f0T;rw[if_pos (.inl h1)];rfl];refine en func38 ntmps38 fun R w0=> ?_;refine go 2 ?_;refine bx fun b3=> ?_;refine go 22 ?_;exact rR idh rfl
 ·by_cases h2:2048<size
  ·rw[show f0T size s=(.ok (0,4),s) by unfold f0T;rw[if_pos (.inr h2)];rfl];refine en func38 ntmps38 fun R w0=> ?_;refine go 2 ?_;refine bx fun b3=> ?_;refine go 22 ?_;exact rR idh rfl
  ·have e0:f0T size s=k0K (ret {g0L with size:=size}) s:=by unfold f0T;rw[if_neg (by omega)]
   rw[e0]at hnb ⊢;refine en func38 ntmps38 fun R w0=> ?_;refine go 2 ?_;refine bx fun b3=> ?_;refine go 22 ?_;refine a0U rfl Hb.o rfl (m1V W a (f0W b3 size) 93 [ptr b3] (ret {g0L with size:=size}) s Hb.o hvl (x1D W a b3 size s.bits) hnb) gSp (fun p t ho=> ?_) (fun e t ho=>by refine pn ?_;exact kx (ho));refine ns ?_;refine go 6 ?_;exact rR idh ho
theorem g2X (W:World) (a:Ad) (s:St) (root:Int) (hnb:(h0E root 3 s).1≠ .big):a0G prog 144 #[ptr a.maps,.int .i64 root] (RS W a s) (Ran fT (RS W a) i0S (h0E root 3 s)):=by
 refine en func144 ntmps144 fun R w0=> ?_;refine go 3 ?_;refine a0U rfl Hb.o rfl (m1N W a s root 3 hnb) gSp (fun u t ho=> ?_) (fun e t ho=>by refine pn ?_;exact kx (ho));refine ns ?_;refine go 1 ?_;exact fR ho
abbrev p1E (b:Nat) (x:Bool):a0E:=pts b (.cells #[.bool x] 4 (0,0))
abbrev m2J (a:Ad) (b0 b1 b2:Nat) (id:Int) (only:Bool):a0E:=b0E [f0G b0 a,j0V b1 id,p1E b2 only]
theorem g2Y (W:World) (a:Ad) (b0 b1 b2:Nat) (id:Int) (only:Bool) (bits:Nat):d1M W a (m2J a b0 b1 b2 id only) 143 [ptr b0,ptr b1,ptr b2] bits (w0L id only):=by
 intro s hbits hnb;have e0:w0L id only s=a0B (find id) (fun x=>a0B (h0E x.root 3) fun _=>ret {g0L with parent:=id,only:=only,size:=x.size,root:=x.root}) s:=rfl;refine ns ?_;refine en func143 ntmps143 fun R w0=> ?_;refine l0C (show Fnd _ (b0E [f0G b0 a,j0V b1 id,p1E b2 only]) _ from gFd) ?_;refine ns ?_;refine go 2 ?_;refine al fun b3=> ?_;refine go 6 ?_;refine a0U rfl Hb.o rfl (v0X W a s id) gSp (fun x t ho=> ?_) (fun e t ho=>by refine pn ?_;(refine b0F (l0O (N:= [f0G b0 a,j0V b1 id,p1E b2 only]) gSp) ?_;exact b0W (e0.trans (a0F ho)) idh gSp));refine ns ?_;have h9:=ho;refine al fun b4=> ?_;refine go 4 ?_;refine tl 6 ?_;refine go 3 ?_;refine b0V (j0R Sc.o rfl gFd rfl) ?_;refine go 3 ?_;refine a0U rfl Hb.o rfl (g2X W a t x.root (c0I (p0H (m:=find id) (by rw[e0]at hnb;exact hnb) h9))) gSp (fun v u ho=> ?_) (fun e t ho=>by refine pn ?_;(refine b0F (l0O (N:= [f0G b0 a,j0V b1 id,p1E b2 only]) gSp) ?_;exact b0W (e0.trans ((a0A h9).trans (a0F ho))) idh gSp));refine ns ?_;refine go 10 ?_;refine a0D (s0P (cs:=f0U {g0L with parent:=id,only:=only,size:=x.size,root:=x.root}) Pl.o rfl (by rfl)) ?_;refine go 3 ?_;refine b0U (l0O (N:= [f0G b0 a,j0V b1 id,p1E b2 only]) gSp) ?_;exact k0A (e0.trans ((a0A h9).trans (by rw[a0A ho];rfl))) idh (RV.agg Ag.o rfl (by simp[Value.cells,f0U]) (a0I (by simp[Value.cells,f0U])) RV.nil) rfl gSp
theorem m1W (W:World) (a:Ad) (s:St) (id:Int) (only:Bool) (hvl:s.vols.length≤1000) (hnb:(h0S id only s).1≠ .big):a0G prog 98 #[ptr a.core,.int .u32 id,.bool only] (RS W a s) (Ran fT (RS W a) z0M (h0S id only s)):=by
 have hi:=f1U W a s id;cases hm:a0C id s.vols with
 |none=>
  rw[hm]at hi;rw[show h0S id only s=(.ok (0,5),s) by unfold h0S;rw[hm]];refine en func98 ntmps98 fun R w0=> ?_;refine go 2 ?_;refine bx fun b3=> ?_;refine bx fun b4=> ?_;refine bx fun b5=> ?_;refine cg 9 (hi) ?_;refine go 3 ?_;refine al fun b8=> ?_;refine go 18 ?_;exact rR idh rfl
 |some x=>
  rw[hm]at hi;have e0:h0S id only s=k0K (w0L id only) s:=by unfold h0S;rw[hm]
  rw[e0]at hnb ⊢;refine en func98 ntmps98 fun R w0=> ?_;refine go 2 ?_;refine bx fun b3=> ?_;refine bx fun b4=> ?_;refine bx fun b5=> ?_;refine cg 9 (hi) ?_;refine go 3 ?_;refine al fun b8=> ?_;refine go 17 ?_;refine e0X (l0O (N:= [f0G b3 a,j0V b4 id,p1E b5 only]) gSp) ?_;refine a0U rfl Hb.o rfl (m1V W a (m2J a b3 b4 b5 id only) 143 [ptr b3,ptr b4,ptr b5] (w0L id only) s Hb.o hvl (g2Y W a b3 b4 b5 id only s.bits) hnb) gSp (fun p t ho=> ?_) (fun e t ho=>by refine pn ?_;exact kx (ho));refine ns ?_;refine go 6 ?_;exact rR idh ho
theorem g2Z (W:World) (a:Ad) (s:St) (id:Int) (hvl:s.vols.length≤1000) (hnb:(h0S id true s).1≠ .big):a0G prog 40 #[ptr a.core,.int .u32 id] (RS W a s) (Ran fT (RS W a) z0M (h0S id true s)):=by
 refine en func40 ntmps40 fun R w0=> ?_;refine go 10 ?_;refine a0U rfl Hb.o rfl (m1W W a s id true hvl hnb) gSp (fun p t ho=> ?_) (fun e t ho=>by refine pn ?_;exact kx (ho));refine ns ?_;refine go 6 ?_;exact rR idh ho
end Go.Proofs.Q

/- Part of the proof; no statement of its own. -/
import Derived.Test.YtpinhnikemamjaaGreatDoorB18
import Derived.Test.YtpinhnikemamjaaGreatDoorB29
import Derived.Test.YtpinhnikemamjaaGreatDoorB16
import Derived.Test.YtpinhnikemamjaaGreatDoorB06
import Derived.Test.YtpinhnikemamjaaGreatDoorProg
import Derived.KernelRfl
import Derived.Test.YtpinhnikemamjaaGreatDoorB08
import Derived.Test.YtpinhnikemamjaaGreatDoorB23
import Derived.Test.YtpinhnikemamjaaGreatDoorB27
import Derived.Test.YtpinhnikemamjaaGreatDoorB24
set_option linter.all false
set_option maxRecDepth 4000
set_option maxHeartbeats 4000000
attribute [local irreducible] Go.Sl.a0O Go.Sl.OW Go.Sl.CW Go.Sl.OS Go.Sl.OM Go.Sl.OMf Go.Sl.KM
namespace Go.Proofs.Q
open Go.Sl Go.Sb Tryz
abbrev cX (b:Nat) (x:Int):a0C:=pts b (.cells #[.int .u64 x] 320 (0,0))
theorem w2O {m:Nat} (h:m=16∨m=32) (y:Int):bits .and .u64 y (IntKind.u64.wrap ((m:Int)-1))=y% (m:Int):=by
 rcases h with rfl|rfl
 ·exact g2G .u64 y
 ·exact r1B .u64 y
theorem u2F (g n cap a b:Nat) (xs:List Int) (hl:xs.length=n) (hn:n≤16) (hab:a+13≤b) (hb:b≤n):
 a0F prog 212 #[slU g n cap,.int .i64 a,.int .i64 b] [f0K g n cap xs] (b0N (fun ys:List Int=>SP a b xs ys) (fun _=> .tuple #[]) (fun ys=> [f0K g n cap ys])):=by
 obtain⟨l,hl2⟩: ∃l:Nat,b=a+l:=⟨b-a,by omega⟩
 subst hl2
 have hp2:=v1J (x:=l) (by omega)
 obtain⟨m,hm⟩: ∃m:Nat,2^q0P l=m:=⟨_,rfl⟩
 rw[hm]at hp2
 have hp:=w2M l (by omega)
 rw[hm]at hp
 refine en func212 ntmps212 fun R w0=> ?_
 refine go 7 ?_
 rw[show((a+l:Nat):Int)- (a:Int)=(l:Int) by omega]
 refine go 12 ?_
 refine al fun b7=> ?_
 refine cg 6 (hp) ?_
 refine go 13 ?_
 rw[show(a:Int)+(l:Int)/4*2-1=((a+l/4*2-1:Nat):Int) by omega]
 refine go 2 ?_
 generalize IntKind.u64.wrap (l:Int)=x0
 refine a0V (X:= {y:Nat×Int×List Int // a+l/4*2-1≤y.1∧y.1≤a+l/4*2+2∧SP a (a+l) xs y.2.2}) (fun y=> [(0,slU g n cap),(1,.int .i64 a),(6,.int .i64 l),(7,pU b7),(8,.int .u64 m),(9,.int .i64 y.1.1)]) (fun y=> [f0K g n cap y.1.2.2,cX b7 y.1.2.1,R]) (fun y=>a+l/4*2+2-y.1.1) ⟨(a+l/4*2-1,x0,xs),by omega,by(show a+l/4*2-1≤_);omega,SP.refl _ _ _⟩ gSu gSp ?_
 rintro⟨⟨i,x,ys⟩,hi1,hi2,hsp⟩ m0 hm0
 try simp only at hm0
 try dsimp only
 dsimp only at hi1 hi2 hsp
 have hyl:=hsp.len
 refine go 13 ?_
 refine a0P rfl (fun hb33=> ?_) (fun hb33=> ?_)
 ·have hi3:i≤a+l/4*2+1:=by have:=of_decide_eq_true hb33;omega
  refine ce 6 (w2N b7 x) ?_
  rintro y _
  refine ns ?_
  refine go 1 ?_
  refine a0D (j1I rfl rfl) ?_
  refine a0D (n0Y rfl rfl) ?_
  rw[w2O (by omega)]
  have hq1:=Int.emod_nonneg y (show(m:Int)≠0 by omega)
  have hq2:=Int.emod_lt_of_pos y (show 0<(m:Int) by omega)
  obtain⟨q,hq⟩: ∃q:Nat,y% (m:Int)=q:=⟨(y% (m:Int)).toNat,by omega⟩
  have hqm:q<m:=by omega
  rw[hq]
  refine go 1 ?_
  rw[show IntKind.i64.wrap (q:Int)=(q:Int)from e0L .i64 _ (by omega) (by show(q:Int)<9223372036854775808;omega)]
  refine go 3 ?_
  refine i0P (X:= {r:Nat // r<l}) (fun r=> [(0,slU g n cap),(1,.int .i64 a),(6,.int .i64 l),(7,pU b7),(8,.int .u64 m),(9,.int .i64 i),(10,.int .i64 r.1)]) (fun r=> [f0K g n cap ys,cX b7 y,R]) ?_ ?_
  ·refine go 7 ?_
   refine a0P rfl (fun hb43=> ?_) (fun hb43=> ?_)
   ·refine go 6 ?_
    rw[show(q:Int)- (l:Int)=((q-l:Nat):Int) by have:=of_decide_eq_true hb43;omega]
    exact me idh (⟨q-l,by have:=of_decide_eq_true hb43;omega⟩)
   ·refine go 1 ?_
    exact me idh (⟨q,by have:=of_decide_eq_false hb43;omega⟩)
  rintro⟨r,hr⟩
  dsimp only
  refine mx (.r 0 11 (.r 12 3 (.two 11 (.hard 15 (.soft 16 (.hard 17 (.soft 18 (.hard 19 .done))))) 15 (.hard 11 (.soft 16 (.hard 17 (.soft 18 (.hard 19 .done)))))))) [] ?_
  refine go 14 ?_
  refine q0A rfl rfl ?_ ?_
  ·refine a0D (a0U Sc.o rfl gFd (c0U (i:=a+r) (by omega) (by omega))) ?_
   refine go 3 ?_
   refine a0D (a0U Sc.o rfl gFd (c0U rfl (by omega))) ?_
   refine go 4 ?_
   refine c0D (xs':=us (ys.set i (xat ys (a+r)))) Sz.o rfl rfl rfl gFd (by rw[f0C];omega) (f0B rfl) ?_
   refine go 4 ?_
   refine c0D (xs':=us (swp ys i (a+r))) Sz.o rfl rfl rfl gFd (by rw[f0C,List.length_set];omega) (f0B (i:=a+r) (by omega)) ?_
   refine go 9 ?_
   rw[show(i:Int)+1=((i+1:Nat):Int) by omega]
   exact rd idh (⟨(i+1,y,swp ys i (a+r)),by(show _≤i+1);omega,by(show i+1≤_);omega,hsp.trans (SP.swap (by omega) (by omega) (by omega))⟩)
  ·refine a0D (a0U Sc.o rfl gFd (c0U rfl (by omega))) ?_
   refine go 3 ?_
   refine a0D (a0U Sc.o rfl gFd (c0U (i:=a+r) (by omega) (by omega))) ?_
   refine go 4 ?_
   refine c0D (xs':=us (ys.set i (xat ys (a+r)))) Sz.o rfl rfl rfl gFd (by rw[f0C];omega) (f0B rfl) ?_
   refine go 4 ?_
   refine c0D (xs':=us (swp ys i (a+r))) Sz.o rfl rfl rfl gFd (by rw[f0C,List.length_set];omega) (f0B (i:=a+r) (by omega)) ?_
   refine go 9 ?_
   rw[show(i:Int)+1=((i+1:Nat):Int) by omega]
   exact rd idh (⟨(i+1,y,swp ys i (a+r)),by(show _≤i+1);omega,by(show i+1≤_);omega,hsp.trans (SP.swap (by omega) (by omega) (by omega))⟩)
 ·refine go 1 ?_
  exact fE ys hsp
theorem j2W (g n cap a b:Nat) (xs:List Int) (hl:xs.length=n) (hn:n≤16) (hab:a+13≤b) (hb:b≤n) (hnd:xs.Nodup):
 a0F prog 215 #[slU g n cap,.int .i64 a,.int .i64 b] [f0K g n cap xs] (b0N (fun y:Bool=>y=true→Srt a b xs) (fun y=> .bool y) (fun _=> [f0K g n cap xs])):=by
 refine en func215 ntmps215 fun R w0=> ?_
 refine go 11 ?_
 rw[show(a:Int)+1=((a+1:Nat):Int) by omega]
 refine go 8 ?_
 refine a0V (X:=Unit) (fun _=> [(0,slU g n cap),(1,.int .i64 a),(2,.int .i64 b),(7,.int .i64 ((a+1:Nat):Int)),(8,.int .i64 0)]) (fun _=> [f0K g n cap xs,R]) (fun _=>0) () gSu gSp ?_
 rintro⟨⟩ m0 hm0
 try simp only at hm0
 try dsimp only
 skip
 refine go 12 ?_
 refine i0P (X:= {i:Nat // a+1≤i∧i≤b∧Srt a i xs}) (fun y=> [(0,slU g n cap),(1,.int .i64 a),(2,.int .i64 b),(7,.int .i64 y.1)]) (fun _=> [f0K g n cap xs,R]) ?_ ?_
 ·refine go 1 ?_
  refine a0V (X:= {i:Nat // a+1≤i∧i≤b∧Srt a i xs}) (fun y=> [(0,slU g n cap),(1,.int .i64 a),(2,.int .i64 b),(7,.int .i64 y.1)]) (fun _=> [f0K g n cap xs,R]) (fun y=>b-y.1) ⟨a+1,Nat.le_refl _,by omega,fun p q _ _ _=>by omega⟩ gSu gSp ?_
  rintro⟨i,hi1,hi2,hs⟩ m2 hm2
  try simp only at hm2
  try dsimp only
  skip
  refine go 2 ?_
  by_cases hib:i<b
  ·refine tl 13 ?_
   refine go 7 ?_
   refine m0W (wg rfl rfl rfl (wTT gT)) (a0U Sc.o rfl gFd (c0U rfl (by omega))) ?_
   refine go 4 ?_
   refine m0W (wg rfl rfl rfl (wTT gT)) (a0U Sc.o rfl gFd (c0U (i:=i-1) (by omega) (by omega))) ?_
   refine go 2 ?_
   refine b0U rfl Hb.o rfl (u0Z _ _) gSp ?_
   refine ns ?_
   refine go 4 ?_
   refine a0P rfl (fun hb32=> ?_) (fun hb32=> ?_)
   ·have hgt:xat xs (i-1)<xat xs i:=by
     have h1: ¬xat xs i<xat xs (i-1):=by simpa using hb32
     have h2:=b1L hnd (show i<xs.length by omega) (show i-1<xs.length by omega) (by omega)
     omega
    refine go 8 ?_
    rw[show(i:Int)+1=((i+1:Nat):Int) by omega]
    exact rd idh (⟨i+1,by omega,by omega,hs.push fun _=>hgt⟩)
   ·refine go 1 ?_
    exact me idh (⟨i,hi1,hi2,hs⟩)
  ·refine tl 13 ?_
   refine go 21 ?_
   exact me idh (⟨i,hi1,hi2,hs⟩)
 rintro⟨i,hi1,hi2,hs⟩
 dsimp only
 refine go 7 ?_
 rw[show((i:Int) == (b:Int))=decide (i=b) by rw[Bool.eq_iff_iff];simp;omega]
 refine go 1 ?_
 refine a0P rfl (fun hb37=> ?_) (fun hb37=> ?_)
 ·have hib:i=b:=of_decide_eq_true hb37
  refine go 5 ?_
  exact rE idh true (fun _=>hib▸hs)
 ·refine go 17 ?_
  exact rE idh false (fun h=>(by cases h))
theorem q2N (g n cap:Nat) (hn:n≤16): ∀(k a b lim:Nat) (xs:List Int),xs.length=n→a≤b→b≤n→b<a+k→b≤a+lim+12→lim≤64→xs.Nodup→(∀i,0<a→a≤i→i<b→xat xs (a-1)<xat xs i)→
 a0F prog 179 #[slU g n cap,.int .i64 a,.int .i64 b,.int .i64 lim] [f0K g n cap xs] (b0N (fun ys:List Int=>SP a b xs ys∧Srt a b ys) (fun _=> .tuple #[]) (fun ys=> [f0K g n cap ys])):=by
 intro k
 induction k with
 |zero=>intro a b lim xs hl hab hb hk;omega
 |succ k ih=>
  intro a b lim xs hl hab hb hk hlim hlm hnd hsep
  refine en func179 ntmps179 fun R w0=> ?_
  refine go 11 ?_
  refine a0V (X:= {y:Nat×Nat×Nat×Bool×Bool×List Int // Pq a b xs y.1 y.2.1 y.2.2.2.2.2∧y.2.1≤y.1+y.2.2.1+12∧y.2.2.1≤lim}) (fun y=> [(0,slU g n cap),(1,.int .i64 y.1.1),(2,.int .i64 y.1.2.1),(3,.int .i64 y.1.2.2.1),(8,.bool y.1.2.2.2.1),(9,.bool y.1.2.2.2.2.1)]) (fun y=> [f0K g n cap y.1.2.2.2.2.2,R]) (fun y=>y.1.2.1-y.1.1) ⟨(a,b,lim,true,true,xs),Pq.new hab hsep,hlim,Nat.le_refl _⟩ gSu gSp ?_
  rintro⟨⟨c,d,lm,wb,wp,ys⟩,hq,hll,hlm2⟩ m0 hm0
  try simp only at hm0
  try dsimp only
  dsimp only at hq hll hlm2
  have hle:=hq.le
  have hyl:=hq.sp.len
  have hyn:=hq.sp.nodup hnd
  refine go 8 ?_
  rw[show(d:Int)- (c:Int)=((d-c:Nat):Int) by omega]
  refine go 8 ?_
  refine a0P rfl (fun hb23=> ?_) (fun hb23=> ?_)
  ·refine ce 5 (o2Y g n cap c d ys (by omega) (by omega) (by omega) (by omega) hyn) ?_
   rintro zs ⟨h1,h2⟩
   refine ns ?_
   refine go 2 ?_
   exact rE idh zs ⟨hq.sp.trans (h1.mono hle.1 hle.2.2),hq.done zs h1 h2⟩
  ·have hlen:12<d-c:=by have:=of_decide_eq_false hb23;omega
   refine go 12 ?_
   refine i0P (X:= {y:Nat×List Int // Pq a b xs c d y.2∧d≤c+y.1+13∧y.1≤lim}) (fun y=> [(0,slU g n cap),(1,.int .i64 c),(2,.int .i64 d),(3,.int .i64 y.1.1),(8,.bool wb),(9,.bool wp),(10,.int .i64 ((d-c:Nat):Int))]) (fun y=> [f0K g n cap y.1.2,R]) ?_ ?_
   ·refine go 6 ?_
    refine a0P rfl (fun hb35=> ?_) (fun hb35=> ?_)
    ·refine ce 5 (u2F g n cap c d ys (by omega) hn (by omega) (by omega)) ?_
     rintro zs h1
     refine ns ?_
     refine go 7 ?_
     rw[show(lm:Int)-1=((lm-1:Nat):Int) by omega]
     exact me idh (⟨(lm-1,zs),hq.mix hnd (by omega) h1,by(show d≤c+(lm-1)+13);omega,by(show lm-1≤lim);omega⟩)
    ·refine go 1 ?_
     exact me idh (⟨(lm,ys),hq,by(show d≤c+lm+13);omega,hlm2⟩)
   rintro⟨⟨l2,y2⟩,hq2,hl2,hl3⟩
   dsimp only at hq2 hl2 hl3 ⊢
   have hyl2:=hq2.sp.len
   have hyn2:=hq2.sp.nodup hnd
   refine ce 5 (u2D g n cap c d y2 (by omega) hn (by omega) (by omega)) ?_
   rintro⟨p,hint⟩ ⟨hp,hh⟩
   refine ns ?_
   dsimp only at hp hh ⊢
   refine go 14 ?_
   refine b0R rfl (by rcases hh with rfl|rfl<;>rfl) ?_
   refine go 2 ?_
   refine q0V ([(0,slU g n cap),(1,.int .i64 c),(2,.int .i64 d),(3,.int .i64 l2),(10,.int .i64 ((d-c:Nat):Int)),(11,.int .i64 p)]) ([f0K g n cap y2,R]) ?_ ?_
   ·refine go 1 ?_
    rcases Bool.eq_false_or_eq_true wb with hwb|hwb
    ·rcases Bool.eq_false_or_eq_true wp with hwp|hwp
     ·refine go 11 ?_
      refine a0P rfl (fun hb68=> ?_) (fun hb68=> ?_)
      ·refine ce 5 (j2W g n cap c d y2 (by omega) hn (by omega) (by omega) hyn2) ?_
       rintro y hy
       refine ns ?_
       refine go 2 ?_
       refine a0P rfl (fun hb72=> ?_) (fun hb72=> ?_)
       ·exact rE idh y2 ⟨hq2.sp,hq2.done y2 (SP.refl _ _ _) (hy hb72)⟩
       ·refine go 1 ?_
        exact h0C idh gSu gSp
      ·refine go 1 ?_
       exact h0C idh gSu gSp
     ·refine go 13 ?_
      exact h0C idh gSu gSp
    ·refine go 13 ?_
     exact h0C idh gSu gSp
   refine q0V ([(0,slU g n cap),(1,.int .i64 c),(2,.int .i64 d),(3,.int .i64 l2),(10,.int .i64 ((d-c:Nat):Int)),(11,.int .i64 p)]) ([f0K g n cap y2,R]) ?_ ?_
   ·refine go 1 ?_
    by_cases hc0:0<c
    ·refine tl 12 ?_
     refine go 7 ?_
     refine m0W (wg rfl rfl rfl (wTT gT)) (a0U Sc.o rfl gFd (c0U (i:=c-1) (by omega) (by omega))) ?_
     refine go 3 ?_
     refine m0W (wg rfl rfl rfl (wTT gT)) (a0U Sc.o rfl gFd (c0U rfl (by omega))) ?_
     refine go 2 ?_
     refine b0U rfl Hb.o rfl (u0Z _ _) gSp ?_
     refine ns ?_
     refine go 4 ?_
     refine b0R rfl (by have:=hq2.sep p hc0 hp.1 hp.2;simpa using this) ?_
     refine go 1 ?_
     exact h0C idh gSu gSp
    ·refine tl 12 ?_
     refine go 20 ?_
     exact h0C idh gSu gSp
   refine ce 6 (w2L g n cap c d p y2 (by omega) (by omega) (by omega) (by omega) hp hyn2) ?_
   rintro⟨m,al,zs⟩ ⟨h1,hm⟩
   refine ns ?_
   dsimp only at h1 hm ⊢
   have hmm:=hm.1
   have hmd:=hm.2.1
   have hqz:=hq2.mix hnd (by omega) h1
   have hzl:=hqz.sp.len
   have hzn:=hqz.sp.nodup hnd
   refine go 39 ?_
   refine a0P rfl (fun hb113=> ?_) (fun hb113=> ?_)
   ·refine ce 14 (ih c m l2 zs (by omega) (by omega) (by omega) (by omega) (by omega) (by omega) hzn (hqz.sepL hm)) ?_
    rintro ws ⟨g1,g2⟩
    refine ns ?_
    refine go 7 ?_
    rw[show(m:Int)+1=((m+1:Nat):Int) by omega]
    refine c1V idh (⟨(m+1,d,l2,decide (((d-c:Nat):Int)/8≤(m:Int)- (c:Int)),al,ws),hqz.left hnd (by omega) hm g1 g2,by(show d≤m+1+l2+12);omega,hl3⟩) (by(show d- (m+1)<_);omega) gSu gSp
   ·refine go 14 ?_
    rw[show(m:Int)+1=((m+1:Nat):Int) by omega]
    refine ce 1 (ih (m+1) d l2 zs (by omega) (by omega) (by omega) (by omega) (by omega) (by omega) hzn hm.sepR) ?_
    rintro ws ⟨g1,g2⟩
    refine ns ?_
    refine go 6 ?_
    refine c1V idh (⟨(c,m,l2,decide (((d-c:Nat):Int)/8≤(d:Int)- (m:Int)),al,ws),hqz.right hnd (by omega) hm g1 g2,by(show m≤c+l2+12);omega,hl3⟩) (by(show m-c<_);omega) gSu gSp
section
section
variable {ν:Type} {ev:ν→Value}
theorem u2G (l b1 b:Nat) (m:List (Int×ν)) (J:List Int→a0C) (hy: ∀acc k,(∃rest,(m.map (·.1)).Perm (acc++k::rest))→a1O prog l #[u4 k] [J acc] (fun e L'=>e= .returned (.bool true)∧L'= [J (acc++ [k])])):
 a0F prog 136 #[.func (.yield l) #[] #[],ptr b1] [J [],pts b1 (.cells #[.map (some b)] 57 (0,0)),b0L b e0H ev m]
  (b0N (fun acc:List Int=>acc.Perm (m.map (·.1))) (fun _=> .tuple #[]) (fun acc=> [J acc,b0L b e0H ev m])):=by
 refine en func136 ntmps136 fun R w0=> ?_
 refine go 3 ?_
 refine t1C (ek:=e0H) (ev:=ev) (m:=m) d0I.o rfl gFd (fun r=> ?_)
 refine go 3 ?_
 refine a0V (X:= {y:List Int×List (Int×ν)×Option (Int×ν) // (m.map (·.1)).Perm (y.1++y.2.1.map (·.1))}) (fun y=> [(0,.func (.yield l) #[] #[]),(5,ptr r)]) (fun y=> [J y.1.1,t0B r b e0H ev m y.1.2.1 y.1.2.2,R]) (fun y=>y.1.2.1.length) ⟨([],m,none),List.Perm.refl _⟩ gSu gSp ?_
 rintro⟨⟨acc,todo,cur⟩,hp⟩ m0 hm0
 try simp only at hm0
 try dsimp only
 dsimp only at hp
 refine go 2 ?_
 refine z1V (ek:=e0H) (ev:=ev) rfl gFd (fun z todo' hz hn=> ?_)
 refine a0D (q2K rfl) ?_
 refine go 3 ?_
 refine a0P rfl (fun hb7=> ?_) (fun hb7=> ?_)
 ·obtain⟨k,rfl⟩:=Option.isSome_iff_exists.1 hb7
  have hlen:todo.length=todo'.length+1:=by have:=hz.length_eq;simpa using this
  have hp2:(m.map (·.1)).Perm (acc++k.1::todo'.map (·.1)):=hp.trans (List.Perm.append_left _ (by simpa using hz.map (·.1)))
  refine go 5 ?_
  refine a0D (z1W (ek:=e0H) (ev:=ev) rfl gFd) ?_
  refine go 5 ?_
  refine a1P ?_
  refine t0N (d0V rfl) ?_
  refine t0N (d0V rfl) ?_
  refine h1J rfl rfl (hy acc k.1 ⟨_,hp2⟩) gSp ?_
  refine ns ?_
  refine t0N (a1H rfl) ?_
  refine r1G ?_
  refine go 3 ?_
  exact rd idh (⟨(acc++ [k.1],todo',some k),by(show(m.map (·.1)).Perm (acc++ [k.1]++todo'.map (·.1)));rw[List.append_assoc];exact hp2⟩)
 ·refine go 1 ?_
  have hz0:z=none:=by cases z with|none=>rfl|some _=>cases hb7
  have ht:=hn hz0
  subst ht
  have hp3:acc.Perm (m.map (·.1)):=(by simpa using hp:(m.map (·.1)).Perm acc).symm
  refine b0G (fun w h=>t1B ((show Fnd _ (t0B r b e0H ev m todo' z) _ from gFd).sat h)) ?_
  exact fE acc hp3
end
end
end Go.Proofs.Q
namespace Go.Proofs.Q
open Go Go.Sl Tryz
instance:Ag prog 244 2:=⟨kr⟩
instance:Fl prog 244 0 0:=⟨kr⟩
instance:Hb prog 205:=⟨kr⟩
instance:Hb prog 255:=⟨kr⟩
instance:Hb prog 256:=⟨kr⟩
instance:Sc prog 241:=⟨kr⟩
instance:Tsl prog 241 244 2:=⟨kr⟩
instance:Sz prog 241 1:=⟨kr⟩
instance:Sz prog 244 2:=⟨kr⟩
instance:Ttb prog 244 16:=⟨kr⟩
instance:Zr prog 241 (.slice none 0 0):=⟨kr⟩
instance:Zr prog 244 (.agg #[.int .i64 0,.int .i64 0]):=⟨kr⟩
instance:Pl prog 244 ([(0,1),(1,1)],.agg #[.int .i64 0,.int .i64 0]):=⟨kr⟩
instance:Hb prog 31:=⟨kr⟩
instance:Hb prog 32:=⟨kr⟩
instance:Hb prog 41:=⟨kr⟩
instance:Pl prog 34 ([(0,1),(1,1),(2,1),(3,1)],.agg #[.slice none 0 0,.int .i64 0,.int .i64 0,.int .i64 0]):=⟨kr⟩
instance:Pl prog 37 ([(0,1),(1,4)],.agg #[.pointer none,.slice none 0 0,.int .i64 0,.int .i64 0,.int .i64 0]):=⟨kr⟩
theorem F.pt35:Sl.e1Z prog 35=true:=by kernel_rfl
theorem F.pt55:Sl.e1Z prog 55=true:=by kernel_rfl
theorem F.pt56:Sl.e1Z prog 56=true:=by kernel_rfl
instance:Hb prog 84:=⟨kr⟩
instance:Hb prog 85:=⟨kr⟩
instance:Hb prog 86:=⟨kr⟩
instance:Hb prog 87:=⟨kr⟩
instance:Pl prog 154 ([(0,1),(1,1)],.agg #[.slice none 0 0,.int .i64 0]):=⟨kr⟩
instance:Pl prog 194 ([(0,1),(1,1)],.agg #[.pointer none,.pointer none]):=⟨kr⟩
instance:Pl prog 210 ([(0,1),(1,1),(2,1)],.agg #[.pointer none,.int .i64 0,.map none]):=⟨kr⟩
instance:Pl prog 59 ([(0,1),(1,1),(2,1),(3,1),(4,1)],.agg #[.pointer none,.pointer none,.map none,.int .u32 0,.int .u32 0]):=⟨kr⟩
instance:Pl prog 92 ([(0,1),(1,1),(2,1),(3,1),(4,1),(5,1),(6,1)],.agg #[.pointer none,.pointer none,.pointer none,.map none,.map none,.slice none 0 0,.int .i64 0]):=⟨kr⟩
instance:Hb prog 99:=⟨kr⟩
instance:Pl prog 173 ([(0,1),(1,1),(2,1),(3,1)],.agg #[.slice none 0 0,.bool false,.int .i64 0,.bool false]):=⟨kr⟩
instance:Pl prog 175 ([(0,1),(1,1)],.agg #[.string ByteArray.empty,.string ByteArray.empty]):=⟨kr⟩
instance:Sz prog 171 1:=⟨kr⟩
instance:Ttb prog 175 32:=⟨kr⟩
instance:Zr prog 175 (.agg #[.string ByteArray.empty,.string ByteArray.empty]):=⟨kr⟩
instance:Hb prog 59:=⟨kr⟩
instance:Hb prog 64:=⟨kr⟩
instance:Hb prog 65:=⟨kr⟩
instance:Hb prog 66:=⟨kr⟩
instance:Hb prog 68:=⟨kr⟩
instance:Hb prog 69:=⟨kr⟩
instance:Hb prog 143:=⟨kr⟩
instance:Hb prog 144:=⟨kr⟩
instance:Hb prog 92:=⟨kr⟩
instance:Hb prog 98:=⟨kr⟩
instance:Pl prog 50 ([(0,1),(1,1),(2,1),(3,1),(4,1),(5,1)],.agg #[.int .u32 0,.int .u32 0,.bool false,.int .i64 0,.int .i64 0,.int .u32 0]):=⟨kr⟩
instance:Hb prog 137:=⟨kr⟩
instance:Hb prog 138:=⟨kr⟩
instance:Hb prog 93:=⟨kr⟩
instance:Sc prog 165:=⟨kr⟩
instance:Hb prog 117:=⟨kr⟩
instance:Hb prog 17:=⟨kr⟩
end Go.Proofs.Q
namespace Go.Proofs.Q
open Go.Sl Go.Sb Tryz
section
attribute [local semireducible] Sl.a0O Sl.OW Sl.CW Sl.OS Sl.OM Sl.OMf Sl.KM
section
variable {c:Cx} {op:Oper} {env:List (Nat×Value)} {L M:List a0C} {a:Ad} {s:St} {v:Value}
theorem l1M (hL:Fnd L (HL a s) M) (h: ∀by_ gv gc o,Sl.a0O c op env (e0E a by_ o s.log s.depth::(TT a by_ gv gc s++M)) v):Sl.a0O c op env L v:=by
 intro act w hh
 obtain⟨x,hs⟩:=g0X.1 (hL.sat hh.sat)
 have h1:=b0J.1 hs
 obtain⟨by_,gv,gc,o⟩:=x
 simp only[hlV,List.cons_append]at h1
 have h2:=(t0J.1 (h1.perm (List.Perm.swap _ _ _))).2
 exact h by_ gv gc o act w ⟨hh.size,hh.slots,hh.defers,h2,hh.like⟩
end
section
variable {α:Type} {m:M α} {s t:St} {x:St×Car α}
theorem v1K {u:Unit} (h:f0F m (s,.start)=(.ok u,x)): ∃a,x=(x.1,.done a)∧m s=(.ok a,x.1):=by
 unfold f0F at h
 simp only at h
 split at h<;>cases h
 rename_i e;exact⟨_,rfl,e⟩
theorem p1Y {e:Int} (h:f0F m (s,.start)=(.err e,x)):x=(x.1,.lost)∧m s=(.err e,x.1):=by
 unfold f0F at h
 simp only at h
 split at h<;>cases h
 rename_i e;exact⟨rfl,e⟩
theorem e1R:(f0F m (s,.start)).1≠ .big↔(m s).1≠ .big:=by
 unfold f0F
 simp only
 split<;>(rename_i e;rw[e];simp)
theorem m0I {a:α} (h:m s=(.ok a,t)):f0F m (s,.start)=(.ok (),(t,.done a)):=by unfold f0F;simp only[h]
theorem c0L {e:Int} (h:m s=(.err e,t)):f0F m (s,.start)=(.err e,(t,.lost)):=by unfold f0F;simp only[h]
end
def u0A {α:Type} (A0:a0C) (A1:α→a0C):Car α→a0C
 | .start=>A0
 | .done a=>A1 a
 | .lost=>b0D []
abbrev RSC {α:Type} (W:World) (a:Ad) (A0:a0C) (A1:α→a0C) (x:St×Car α):List a0C:=RS W a x.1++ [u0A A0 A1 x.2]
abbrev g0B (b:Nat) (a:Ad):a0C:=pts b (.cells #[ptr a.core] 35 (0,0))
abbrev f0L (b:Nat) (n:Int):a0C:=pts b (.cells #[.int .i64 n] 3 (0,0))
abbrev j0O (b:Nat) (n:Int):a0C:=pts b (.cells #[.int .u32 n] 47 (0,0))
abbrev e2Q (b:Nat) (g:FuncId) (cap:List Value):a0C:=pts b (.cells #[.func (.func g) #[] cap.toArray] 1 (0,0))
theorem o2Z (n:Int):PB (o0A n):=s0J _ (fun s=> {s with keep:=max n 0}) fun _=>rfl
theorem p2A (more:Nat):PB (Go.Sb.k0H more):=fun s=>by
 unfold Go.Sb.k0H
 refine b0P (o2Z _) (fun _ t=> ?_) s
 split<;>rfl
abbrev r0G {α:Type} (W:World) (a:Ad) (A0:a0C) (A1:α→a0C) (g:FuncId) (cap:List Value) (bits:Nat) (m:M α):Prop:= ∀t:St,t.bits=bits→(m t).1≠ .big→
 a0F prog g cap.toArray (RS W a t++ [A0]) (Ran fT (RSC W a A0 A1) k0I (f0F m (t,.start)))
abbrev e2R (a:Ad) (A0:a0C) (b0 b1 b2:Nat) (more:Nat) (g:FuncId) (cap:List Value):a0C:=b0D [g0B b0 a,f0L b1 more,e2Q b2 g cap,A0]
attribute [local irreducible] Sl.a0O Sl.OW Sl.CW Sl.OS Sl.OM Sl.OMf Sl.KM
theorem j2X {α:Type} (W:World) (a:Ad) (A0:a0C) (A1:α→a0C) (b0 b1 b2 more:Nat) (g:FuncId) (cap:List Value) (m:M α) (s:St) (hb:e0Y prog g=true) (hmo:more≤1000) (hvl:s.vols.length≤1000)
 (hg:r0G W a A0 A1 g cap s.bits m) (hnb:(e0O more m s).1≠ .big):
 a0F prog 116 #[ptr b0,ptr b1,ptr b2] (RS W a s++ [e2R a A0 b0 b1 b2 more g cap]) (Ran fT (RSC W a (e2R a A0 b0 b1 b2 more g cap) A1) k0I (f0F (e0O more m) (s,.start))):=by
 have hnb0:(Go.Sb.k0H more s).1≠ .big:=c0I hnb
 have hpb:(Go.Sb.k0H more s).2.bits=s.bits:=p2A more s
 obtain⟨room,hroom⟩: ∃r:Int,r=2*((s.vols.length+more:Nat):Int):=⟨_,rfl⟩
 have ea:Go.Sb.k0H more s=a0B (o0A room) (fun _ s=>if 0<more∧(b0K s:Int)<room then(.err 8,s)else(.ok (),s)) s:=by unfold Go.Sb.k0H;rw[hroom]
 have em:e0O more m s=a0B (Go.Sb.k0H more) (fun _=>m) s:=rfl
 refine ns ?_
 by_cases hm0:more=0
 ·refine en func116 ntmps116 fun R w0=> ?_
  refine k0Q (show Fnd _ (b0D [g0B b0 a,f0L b1 more,e2Q b2 g cap,A0]) _ from gFd) ?_
  refine ns ?_
  refine go 5 ?_
  refine b0X (j0K Sc.o rfl gFd rfl) ?_
  refine b0X (l1M gFd fun by_ gv gc o=>by rw[d0M];simp only[List.cons_append,List.nil_append];exact j1T d0I.o rfl gFd) ?_
  refine go 3 ?_
  rw[show 2*(((s.vols.length:Nat):Int)+((more:Nat):Int))=room by rw[hroom];omega]
  refine go 8 ?_
  refine a0D (j0K Sc.o rfl gFd rfl) ?_
  refine go 1 ?_
  refine a0X rfl Hb.o rfl (k1T W a s room (by rw[ea]at hnb0;exact c0I hnb0)) gSp (fun u t ho=> ?_) (fun e t ho=>by refine pn ?_;(have h9:Go.Sb.k0H more s=(.err e,t):=(by rw[ea];exact a0I ho);refine b0G (fun w h=>b0Y h) ?_;exact b0W (c0L (em.trans (a0I h9))) idh gSp))
  refine ns ?_
  refine go 1 ?_
  have h9:Go.Sb.k0H more s=(.ok (),t):=by rw[ea,a0A ho,if_neg (by omega)]
  rw[h9]at hpb
  refine go 22 ?_
  refine a0X rfl hb rfl (hg t hpb (o0S hnb h9)) gSp (fun v ⟨t',oc⟩ ho=> ?_) (fun e t ho=>by refine pn ?_;(obtain⟨t1,t2⟩:=t;obtain⟨hx,hm⟩:=p1Y ho;obtain rfl:t2= .lost:=congrArg Prod.snd hx;have hm:_=(Out.err e,t1):=hm;exact b0W (c0L (em.trans ((a0A h9).trans hm))) idh gSp))
  refine ns ?_
  refine go 1 ?_
  obtain⟨y,hx,hm⟩:=v1K ho
  obtain rfl:oc= .done y:=congrArg Prod.snd hx
  have hm:_=(Out.ok y,t'):=hm
  simp only[RSC,u0A,List.cons_append,List.nil_append]
  exact fR (s:=(t',.done y)) (m0I (em.trans ((a0A h9).trans hm)))
 ·have hm1:0<more:=by omega
  refine en func116 ntmps116 fun R w0=> ?_
  refine k0Q (show Fnd _ (b0D [g0B b0 a,f0L b1 more,e2Q b2 g cap,A0]) _ from gFd) ?_
  refine ns ?_
  refine go 5 ?_
  refine b0X (j0K Sc.o rfl gFd rfl) ?_
  refine b0X (l1M gFd fun by_ gv gc o=>by rw[d0M];simp only[List.cons_append,List.nil_append];exact j1T d0I.o rfl gFd) ?_
  refine go 3 ?_
  rw[show 2*(((s.vols.length:Nat):Int)+((more:Nat):Int))=room by rw[hroom];omega]
  refine go 8 ?_
  refine a0D (j0K Sc.o rfl gFd rfl) ?_
  refine go 1 ?_
  refine a0X rfl Hb.o rfl (k1T W a s room (by rw[ea]at hnb0;exact c0I hnb0)) gSp (fun u t ho=> ?_) (fun e t ho=>by refine pn ?_;(have h9:Go.Sb.k0H more s=(.err e,t):=(by rw[ea];exact a0I ho);refine b0G (fun w h=>b0Y h) ?_;exact b0W (c0L (em.trans (a0I h9))) idh gSp))
  refine ns ?_
  refine go 1 ?_
  have hok:=ho
  refine go 10 ?_
  refine c0R (j0K Sc.o rfl gFd rfl) (wg rfl rfl rfl (wTT gT)) ?_
  refine cg 1 (d2K a t) ?_
  refine go 5 ?_
  refine a0P rfl (fun hb28=> ?_) (fun hb28=> ?_)
  ·have h9:Go.Sb.k0H more s=(.err 8,t):=by rw[ea,a0A hok,if_pos ⟨hm1,of_decide_eq_true hb28⟩]
   refine b0V (fun w h=>b0Y h) ?_
   refine go 1 ?_
   refine c0G rfl Hb.o rfl (c0S 8) gSp ?_
   refine ns ?_
   refine pn ?_
   exact b0W (c0L (em.trans (a0I h9))) idh gSp
  ·have h9:Go.Sb.k0H more s=(.ok (),t):=by rw[ea,a0A hok,if_neg (fun h=>of_decide_eq_false hb28 h.2)]
   rw[h9]at hpb
   refine go 4 ?_
   refine a0X rfl hb rfl (hg t hpb (o0S hnb h9)) gSp (fun v ⟨t',oc⟩ ho=> ?_) (fun e t ho=>by refine pn ?_;(obtain⟨t1,t2⟩:=t;obtain⟨hx,hm⟩:=p1Y ho;obtain rfl:t2= .lost:=congrArg Prod.snd hx;have hm:_=(Out.err e,t1):=hm;exact b0W (c0L (em.trans ((a0A h9).trans hm))) idh gSp))
   refine ns ?_
   refine go 1 ?_
   obtain⟨y,hx,hm⟩:=v1K ho
   obtain rfl:oc= .done y:=congrArg Prod.snd hx
   have hm:_=(Out.ok y,t'):=hm
   simp only[RSC,u0A,List.cons_append,List.nil_append]
   exact fR (s:=(t',.done y)) (m0I (em.trans ((a0A h9).trans hm)))
end
theorem k0Z {L N M:List a0C} (hL:a0Z L N M) (w:World) (h:Sat w L):Sat w (b0D N::M):=b0J.2 (h.perm hL)
theorem g1B {α:Type} {m:M α} {s t:St} {c:Car α} {e:Int} (h:n0T (f0F m) (s,.start)=(.ok e,(t,c))):(∃a,c= .done a∧e=0)∨(c= .lost∧e≠0):=by
 unfold n0T n0S a0B f0F at h
 simp only at h
 split at h<;>rename_i h1
 ·simp only[Prod.mk.injEq,Out.ok.injEq]at h
  obtain⟨rfl,h2,h3⟩:=h
  split at h1
  ·cases h1
  ·rename_i hd
   cases hm:m {s with depth:=s.depth+1} with
   |mk o u=>
    rw[hm]at h1
    cases o with
    |ok a=>
     simp only at h1
     split at h1
     ·cases h1
     ·cases h1;exact .inl ⟨a,h3.symm,rfl⟩
    |err e'=>
     simp only at h1
     split at h1
     ·cases h1
     ·rename_i h4;cases h1;exact .inr ⟨h3.symm,fun h5=>h4 (.inr h5)⟩
    |big=>cases h1
 ·cases h
 ·cases h
theorem m0F {α:Type} {m:M α} {s:St} {x:St×Car α} {e:Int} :n0T (f0F m) (s,.start)≠(.err e,x):=by
 unfold n0T a0B
 intro h
 cases ho:n0S (f0F m) (s,.start)with
 |mk o u=>
  rw[ho]at h
  cases o with
  |ok a=>cases h
  |err e'=>exact k1U _ _ _ _ ho
  |big=>cases h
theorem s0M {α:Type} {m:M α} {s t:St} {c:Car α} {e:Int} (h:n0T (f0F m) (s,.start)=(.ok e,(t,c))):h0V m s=(.ok (e,c),t):=by unfold h0V s1C;rw[h]
theorem c1G {α:Type} {m:M α} {s:St} (h:(h0V m s).1≠ .big):(n0T (f0F m) (s,.start)).1≠ .big:=by
 intro e
 apply h
 unfold h0V s1C
 cases ho:n0T (f0F m) (s,.start)with
 |mk o u=>
  rw[ho]at e
  simp only at e
  subst e
  rfl
theorem v0A {α:Type} (W:World) (a:Ad) (A0:a0C) (A1:α→a0C) (more:Nat) (g:FuncId) (cap:List Value) (m:M α) (s:St) (hb:e0Y prog g=true) (hmo:more≤1000) (hvl:s.vols.length≤1000)
 (hg:r0G W a A0 A1 g cap s.bits m) (hnb:(h0V (e0O more m) s).1≠ .big):
 a0F prog 64 #[ptr a.core,.int .i64 more,.func (.func g) #[] cap.toArray] (RS W a s++ [A0]) (Ran fT (RSC W a A0 A1) a0J (n0T (f0F (e0O more m)) (s,.start))):=by
 have hn:=c1G hnb
 refine ns ?_
 refine en func64 ntmps64 fun R w0=> ?_
 refine go 2 ?_
 refine bx fun b3=> ?_
 refine bx fun b4=> ?_
 refine bx fun b5=> ?_
 refine go 8 ?_
 refine a0D (j0K Sc.o rfl gFd rfl) ?_
 refine go 1 ?_
 refine e0K (k0Z (N:= [g0B b3 a,f0L b4 more,e2Q b5 g cap,A0]) gSp) ?_
 refine a0X rfl Hb.o rfl (t0D (C:=Car α) W a (u0A (e2R a A0 b3 b4 b5 more g cap) A1) 116 [ptr b3,ptr b4,ptr b5] (f0F (e0O more m)) s .start Hb.o hn (fun h=>j2X W a A0 A1 b3 b4 b5 more g cap m {s with depth:=s.depth+1} hb hmo hvl hg (e1R.1 h))) gSp (fun e ⟨t,oc⟩ ho=> ?_) (fun e t ho=>by refine pn ?_;(exact(m0F ho).elim))
 refine ns ?_
 refine go 3 ?_
 rcases g1B ho with ⟨y,rfl,rfl⟩| ⟨rfl,_⟩
 ·simp only[u0A];exact p0I ho idh rfl rfl gSp
 ·simp only[u0A];exact p0I ho idh rfl rfl gSp
theorem y1C {s:St} {v:Int} (h:(p0H v s).1≠ .big):s.log.length<1000000000:=t0E h fun h'=>by simp[p0H,a0B,back,h']
theorem e2S {s:St} (v:Int) (h:s.log.length<1000000000):p0H v s=(.ok (),{s with log:=bk s.depth s.log (.next s.next),next:=v}):=by
 simp[p0H,a0B,back,show ¬1000000000≤s.log.length by omega]
theorem j2Y (W:World) (a:Ad) (s:St) (x:Ent) (hnb:(v0E x s).1≠ .big):a0F prog 138 #[ptr a.core,d0Z x] (RS W a s) (Ran fT (RS W a) e0H (v0E x s)):=by
 obtain⟨y,hy⟩: ∃y:Ent,y= {x with id:=s.next,born:=s.epoch} :=⟨_,rfl⟩
 have e0:v0E x s=a0B (p0H (m0N (s.next+1))) (fun _=>a0B (l0Q y) fun _=>ret y.id) s:=by rw[hy];rfl
 have hn:=y1C (show(p0H (m0N (s.next+1)) s).1≠ .big by rw[e0]at hnb;exact c0I hnb)
 rw[a0A (e2S _ hn)]at e0
 have hyid:y.id=s.next:=by rw[hy]
 refine en func138 ntmps138 fun R w0=> ?_
 try simp only[d0Z]
 refine go 2 ?_
 refine bx fun b3=> ?_
 refine go 4 ?_
 refine mx (.r 0 9 (.hard 9 (.soft 10 (.hard 11 .done)))) [HL a s] ?_
 refine go 3 ?_
 refine c0V rfl (j0K Sc.o rfl gFd rfl) ?_
 refine go 3 ?_
 refine c0V rfl (j0K Sc.o rfl gFd rfl) ?_
 refine go 11 ?_
 refine b0G (L':=r0Y b3 y::(RS W a s++ [R])) (fun w h=>by rw[hy];exact h.re gSp) ?_
 refine ns ?_
 refine go 2 ?_
 refine e0J gFd fun by_ gv gc o hg hok=> ?_
 simp only[d0M,o0J,c0Y,List.cons_append,List.nil_append]
 refine tl 15 ?_
 refine go 14 ?_
 refine b0X (j1H rfl rfl) ?_
 refine go 1 ?_
 rw[show IntKind.u32.wrap (s.next+1)=m0N (s.next+1)from IntKind.wrap_u32 _]
 refine ce 0 (x1F a by_ o s.log s.depth s.next (m0N (s.next+1)) s.epoch hn) ?_
 rintro e _
 refine ns ?_
 refine go 1 ?_
 refine b0G (d0A (s:= {s with log:=bk s.depth s.log (.next s.next),next:=m0N (s.next+1)}) hg hok gSp) ?_
 refine go 5 ?_
 refine a0X rfl Hb.o rfl (u0Y W a {s with log:=bk s.depth s.log (.next s.next),next:=m0N (s.next+1)} y (by rw[e0]at hnb;exact c0I hnb)) gSp (fun u t ho=> ?_) (fun e t ho=>by refine pn ?_;exact kx ((by rw[e0];exact a0I ho)))
 refine ns ?_
 refine go 9 ?_
 exact rR idh (by rw[e0,a0A ho];rfl)
abbrev q1U (b:Nat) (g:FuncId) (cap:List Value):a0C:=pts b (.cells #[.func (.func g) #[] cap.toArray] 165 (0,0))
abbrev c1H (W:World) (a:Ad) (AD:a0C) (g:FuncId) (cap:List Value) (bits:Nat) (made:M Ent):Prop:= ∀t:St,t.bits=bits→(made t).1≠ .big→
 a0F prog g cap.toArray (RS W a t++ [AD]) (Ran fT (fun u=>RS W a u++ [AD]) d0Z (made t))
abbrev j2Z (a:Ad) (AD:a0C) (b0 b1 b2:Nat) (g:FuncId) (cap:List Value):a0C:=b0D [g0B b0 a,q1U b1 g cap,j0O b2 0,AD]
theorem e2T (W:World) (a:Ad) (AD:a0C) (b0 b1 b2:Nat) (g:FuncId) (cap:List Value) (made:M Ent) (bits:Nat) (hb:e0Y prog g=true) (hg:c1H W a AD g cap bits made):
 r0G W a (j2Z a AD b0 b1 b2 g cap) (fun id=>j0O b2 id) 137 [ptr b0,ptr b1,ptr b2] bits (a0B made v0E):=by
 intro s hbits hnb
 refine ns ?_
 refine en func137 ntmps137 fun R w0=> ?_
 refine k0Q (show Fnd _ (b0D [g0B b0 a,q1U b1 g cap,j0O b2 0,AD]) _ from gFd) ?_
 refine ns ?_
 refine mx (.r 0 2 (.hard 2 (.hard 3 (.hard 4 .done)))) [g0B b0 a,q1U b1 g cap] ?_
 refine go 3 ?_
 refine a0X rfl hb rfl (hg s hbits (c0I hnb)) gSp (fun x t ho=> ?_) (fun e t ho=>by refine pn ?_;(refine b0G (fun w h=>b0Y h) ?_;exact b0W (c0L (a0I ho)) idh gSp))
 refine ns ?_
 refine go 3 ?_
 have h9:=ho
 refine a0X rfl Hb.o rfl (j2Y W a t x (o0S hnb h9)) gSp (fun id u ho=> ?_) (fun e t ho=>by refine pn ?_;(refine b0G (fun w h=>b0Y h) ?_;exact b0W (c0L ((a0A h9).trans ho)) idh gSp))
 refine ns ?_
 refine go 7 ?_
 exact fR (s:=(u,.done id)) (m0I ((a0A h9).trans ho))
def y0Q (p:Int×Int):Value:= .tuple #[.int .u32 p.1,.int .i64 p.2]
theorem l1N (W:World) (a:Ad) (AD:a0C) (g:FuncId) (cap:List Value) (made:M Ent) (s:St) (hb:e0Y prog g=true) (hvl:s.vols.length≤1000) (hg:c1H W a AD g cap s.bits made) (hnb:(l0U made s).1≠ .big):
 a0F prog 92 #[ptr a.core,.func (.func g) #[] cap.toArray] (RS W a s++ [AD]) (Ran fT (RS W a) y0Q (l0U made s)):=by
 refine ns ?_
 by_cases h16:16≤s.vols.length
 ·rw[show l0U made s=(.ok (0,13),s) by unfold l0U;rw[if_pos h16]]
  refine en func92 ntmps92 fun R w0=> ?_
  refine go 2 ?_
  refine bx fun b2=> ?_
  refine bx fun b3=> ?_
  refine go 10 ?_
  refine a0D (j0K Sc.o rfl gFd rfl) ?_
  refine a0D (l1M gFd fun by_ gv gc o=>by rw[d0M];simp only[List.cons_append,List.nil_append];exact j1T d0I.o rfl gFd) ?_
  refine go 10 ?_
  exact rR idh rfl
 ·have e0:l0U made s=a0B (h0V (e0O 1 (a0B made v0E))) (fun r=>ret (if r.1=0 then(a1Z 0 r.2,0)else(0,r.1))) s:=by unfold l0U;rw[if_neg h16]
  have hn:(h0V (e0O 1 (a0B made v0E)) s).1≠ .big:=by rw[e0]at hnb;exact c0I hnb
  refine en func92 ntmps92 fun R w0=> ?_
  refine go 2 ?_
  refine bx fun b2=> ?_
  refine bx fun b3=> ?_
  refine go 10 ?_
  refine a0D (j0K Sc.o rfl gFd rfl) ?_
  refine a0D (l1M gFd fun by_ gv gc o=>by rw[d0M];simp only[List.cons_append,List.nil_append];exact j1T d0I.o rfl gFd) ?_
  refine go 8 ?_
  refine al fun b6=> ?_
  refine go 7 ?_
  refine e0K (k0Z (N:= [g0B b2 a,q1U b3 g cap,j0O b6 0,AD]) gSp) ?_
  refine a0X rfl Hb.o rfl (v0A W a (j2Z a AD b2 b3 b6 g cap) (fun id=>j0O b6 id) 1 137 [ptr b2,ptr b3,ptr b6] (a0B made v0E) s Hb.o (by omega) hvl (e2T W a AD b2 b3 b6 g cap made s.bits hb hg) hn) gSp (fun e ⟨t,oc⟩ ho=> ?_) (fun e t ho=>by refine pn ?_;(exact(m0F ho).elim))
  refine ns ?_
  refine go 2 ?_
  have e1:=e0.trans (a0A (s0M ho))
  try simp only[RSC]
  refine go 8 ?_
  refine a0P rfl (fun hb18=> ?_) (fun hb18=> ?_)
  ·have hz:e≠0:=by have h:=hb18;simp only[bne_iff_ne,ne_eq]at h;exact h
   refine go 7 ?_
   exact rR idh (by rw[e1,if_neg hz];rfl)
  ·have hz:e=0:=by have h:=hb18;simp only[bne_eq_false_iff_eq]at h;exact h
   obtain⟨y,rfl,_⟩| ⟨_,h9⟩:=g1B ho
   rotate_left
   ·exact(h9 hz).elim
   simp only[u0A]
   subst hz
   refine go 10 ?_
   exact rR idh (by rw[e1,if_pos rfl];rfl)
theorem v1L (W:World) (a:Ad) (b0:Nat) (size:Int) (bits:Nat):c1H W a (f0L b0 size) 93 [ptr b0] bits (ret {h0T with size:=size}):=by
 intro s hbits hnb
 have hs1:(h0L {h0T with size:=size}).toArray.size=6:=rfl
 refine ns ?_
 refine en func93 ntmps93 fun R w0=> ?_
 refine go 2 ?_
 refine al fun b1=> ?_
 refine go 5 ?_
 refine a0D (s0B (cs:=h0L {h0T with size:=size}) Pl.o rfl (by rfl)) ?_
 refine go 3 ?_
 exact j0R rfl idh (RV.agg Ag.o rfl (by simp[Value.cells,h0L]) (a0G (by simp[Value.cells,h0L])) RV.nil) rfl gSp
theorem v1M (W:World) (a:Ad) (s:St) (size:Int) (hvl:s.vols.length≤1000) (hnb:(g0K size s).1≠ .big):a0F prog 38 #[ptr a.core,.int .i64 size] (RS W a s) (Ran fT (RS W a) y0Q (g0K size s)):=by
 by_cases h1:size<1
 ·rw[show g0K size s=(.ok (0,4),s) by unfold g0K;rw[if_pos (.inl h1)];rfl]
  refine en func38 ntmps38 fun R w0=> ?_
  refine go 2 ?_
  refine bx fun b3=> ?_
  refine go 22 ?_
  exact rR idh rfl
 ·by_cases h2:2048<size
  ·rw[show g0K size s=(.ok (0,4),s) by unfold g0K;rw[if_pos (.inr h2)];rfl]
   refine en func38 ntmps38 fun R w0=> ?_
   refine go 2 ?_
   refine bx fun b3=> ?_
   refine go 22 ?_
   exact rR idh rfl
  ·have e0:g0K size s=l0U (ret {h0T with size:=size}) s:=by unfold g0K;rw[if_neg (by omega)]
   rw[e0]at hnb ⊢
   refine en func38 ntmps38 fun R w0=> ?_
   refine go 2 ?_
   refine bx fun b3=> ?_
   refine go 22 ?_
   refine a0X rfl Hb.o rfl (l1N W a (f0L b3 size) 93 [ptr b3] (ret {h0T with size:=size}) s Hb.o hvl (v1L W a b3 size s.bits) hnb) gSp (fun p t ho=> ?_) (fun e t ho=>by refine pn ?_;exact kx (ho))
   refine ns ?_
   refine go 6 ?_
   exact rR idh ho
theorem e2U (W:World) (a:Ad) (s:St) (root:Int) (hnb:(g0N root 3 s).1≠ .big):a0F prog 144 #[ptr a.maps,.int .i64 root] (RS W a s) (Ran fT (RS W a) k0I (g0N root 3 s)):=by
 refine en func144 ntmps144 fun R w0=> ?_
 refine go 3 ?_
 refine a0X rfl Hb.o rfl (l1F W a s root 3 hnb) gSp (fun u t ho=> ?_) (fun e t ho=>by refine pn ?_;exact kx (ho))
 refine ns ?_
 refine go 1 ?_
 exact fR ho
abbrev n1S (b:Nat) (x:Bool):a0C:=pts b (.cells #[.bool x] 4 (0,0))
abbrev k2A (a:Ad) (b0 b1 b2:Nat) (id:Int) (only:Bool):a0C:=b0D [g0B b0 a,j0O b1 id,n1S b2 only]
theorem e2V (W:World) (a:Ad) (b0 b1 b2:Nat) (id:Int) (only:Bool) (bits:Nat):c1H W a (k2A a b0 b1 b2 id only) 143 [ptr b0,ptr b1,ptr b2] bits (y0G id only):=by
 intro s hbits hnb
 have e0:y0G id only s=a0B (find id) (fun x=>a0B (g0N x.root 3) fun _=>ret {h0T with parent:=id,only:=only,size:=x.size,root:=x.root}) s:=rfl
 refine ns ?_
 refine en func143 ntmps143 fun R w0=> ?_
 refine k0Q (show Fnd _ (b0D [g0B b0 a,j0O b1 id,n1S b2 only]) _ from gFd) ?_
 refine ns ?_
 refine go 2 ?_
 refine al fun b3=> ?_
 refine go 6 ?_
 refine a0X rfl Hb.o rfl (u0X W a s id) gSp (fun x t ho=> ?_) (fun e t ho=>by refine pn ?_;(refine b0G (k0Z (N:= [g0B b0 a,j0O b1 id,n1S b2 only]) gSp) ?_;exact b0W (e0.trans (a0I ho)) idh gSp))
 refine ns ?_
 have h9:=ho
 refine al fun b4=> ?_
 refine go 4 ?_
 refine tl 6 ?_
 refine go 3 ?_
 refine b0X (j0K Sc.o rfl gFd rfl) ?_
 refine go 3 ?_
 refine a0X rfl Hb.o rfl (e2U W a t x.root (c0I (o0S (m:=find id) (by rw[e0]at hnb;exact hnb) h9))) gSp (fun v u ho=> ?_) (fun e t ho=>by refine pn ?_;(refine b0G (k0Z (N:= [g0B b0 a,j0O b1 id,n1S b2 only]) gSp) ?_;exact b0W (e0.trans ((a0A h9).trans (a0I ho))) idh gSp))
 refine ns ?_
 refine go 10 ?_
 refine a0D (s0B (cs:=h0L {h0T with parent:=id,only:=only,size:=x.size,root:=x.root}) Pl.o rfl (by rfl)) ?_
 refine go 3 ?_
 refine b0V (k0Z (N:= [g0B b0 a,j0O b1 id,n1S b2 only]) gSp) ?_
 exact j0R (e0.trans ((a0A h9).trans (by rw[a0A ho];rfl))) idh (RV.agg Ag.o rfl (by simp[Value.cells,h0L]) (a0G (by simp[Value.cells,h0L])) RV.nil) rfl gSp
theorem l1O (W:World) (a:Ad) (s:St) (id:Int) (only:Bool) (hvl:s.vols.length≤1000) (hnb:(i0G id only s).1≠ .big):a0F prog 98 #[ptr a.core,.int .u32 id,.bool only] (RS W a s) (Ran fT (RS W a) y0Q (i0G id only s)):=by
 have hi:=e1P W a s id
 cases hm:a0E id s.vols with
 |none=>
  rw[hm]at hi
  rw[show i0G id only s=(.ok (0,5),s) by unfold i0G;rw[hm]]
  refine en func98 ntmps98 fun R w0=> ?_
  refine go 2 ?_
  refine bx fun b3=> ?_
  refine bx fun b4=> ?_
  refine bx fun b5=> ?_
  refine cg 9 (hi) ?_
  refine go 3 ?_
  refine al fun b8=> ?_
  refine go 18 ?_
  exact rR idh rfl
 |some x=>
  rw[hm]at hi
  have e0:i0G id only s=l0U (y0G id only) s:=by unfold i0G;rw[hm]
  rw[e0]at hnb ⊢
  refine en func98 ntmps98 fun R w0=> ?_
  refine go 2 ?_
  refine bx fun b3=> ?_
  refine bx fun b4=> ?_
  refine bx fun b5=> ?_
  refine cg 9 (hi) ?_
  refine go 3 ?_
  refine al fun b8=> ?_
  refine go 17 ?_
  refine e0K (k0Z (N:= [g0B b3 a,j0O b4 id,n1S b5 only]) gSp) ?_
  refine a0X rfl Hb.o rfl (l1N W a (k2A a b3 b4 b5 id only) 143 [ptr b3,ptr b4,ptr b5] (y0G id only) s Hb.o hvl (e2V W a b3 b4 b5 id only s.bits) hnb) gSp (fun p t ho=> ?_) (fun e t ho=>by refine pn ?_;exact kx (ho))
  refine ns ?_
  refine go 6 ?_
  exact rR idh ho
theorem e2W (W:World) (a:Ad) (s:St) (id:Int) (hvl:s.vols.length≤1000) (hnb:(i0G id true s).1≠ .big):a0F prog 40 #[ptr a.core,.int .u32 id] (RS W a s) (Ran fT (RS W a) y0Q (i0G id true s)):=by
 refine en func40 ntmps40 fun R w0=> ?_
 refine go 10 ?_
 refine a0X rfl Hb.o rfl (l1O W a s id true hvl hnb) gSp (fun p t ho=> ?_) (fun e t ho=>by refine pn ?_;exact kx (ho))
 refine ns ?_
 refine go 6 ?_
 exact rR idh ho
abbrev p2B (b:Nat) (x:B):a0C:=pts b (.cells #[b0B x] 9 (0,0))
theorem u2H (id:Int):PB (find id):=fun s=>by unfold find;split<;>rfl
theorem i1Z (id:Int):PB (l0H id):=b0P (u2H id) fun x=>l0D (f1X _) (d0C _)
theorem v1N: ∀k x a d,PB (j0L k x a d)
 |0,x,a,d=>d0C _
 |k+1,x,a,d=>by
  unfold j0L
  exact l0D (d0C _) (b0P (t2V _ _) fun _=>b0P (a2W _ _ _) fun _=>v1N k _ _ _)
theorem v0Z {x:Ent} {at_ n:Int} {s t:St} {u:Unit} (h:g0S x at_ n s=(.ok u,t)):t=s∧0≤at_∧0≤n∧at_+n≤x.size∧x.size≤5000:=by
 unfold g0S at h
 split at h
 ·cases h
 ·unfold l0E at h
  split at h
  ·cases h
  ·cases h;exact⟨rfl,by omega,by omega,by omega,by omega⟩
abbrev b2B (a:Ad) (b0 b1 b2 b3:Nat) (id at_:Int) (data:B):a0C:=b0D [g0B b0 a,j0O b1 id,p2B b2 data,f0L b3 at_]
theorem y1D (W:World) (hW:h0W W) (a:Ad) (b0 b1 b2 b3:Nat) (id at_:Int) (data:B) (bits:Nat) (hbits:bits≤256) (hdl:data.length≤100000):
 r0G W a (b2B a b0 b1 b2 b3 id at_ data) (fun _:Unit=>b0D []) 65 [ptr b0,ptr b1,ptr b2,ptr b3] bits (i0H id at_ data):=by
 intro s hsb hnb
 have e0:i0H id at_ data s=a0B (l0H id) (fun x=>if data.length%64≠0 then n0Q 4 else a0B (g0S x at_ (data.length/64:Nat)) fun _=>a0B (e0N x at_.toNat data) l0Q) s:=rfl
 refine ns ?_
 refine en func65 ntmps65 fun R w0=> ?_
 refine k0Q (show Fnd _ (b0D [g0B b0 a,j0O b1 id,p2B b2 data,f0L b3 at_]) _ from gFd) ?_
 refine ns ?_
 refine go 4 ?_
 refine a0X rfl Hb.o rfl (c1F W a s id) gSp (fun x t ho=> ?_) (fun e t ho=>by refine pn ?_;(refine b0G (fun w h=>b0Y h) ?_;exact b0W (c0L (e0.trans (a0I ho))) idh gSp))
 refine ns ?_
 have hpb:=i1Z id s
 rw[ho]at hpb
 have hpb:t.bits=s.bits:=hpb
 have e1:=e0.trans (a0A ho)
 clear ho
 refine al fun b4=> ?_
 refine go 8 ?_
 rw[b0F]
 refine go 4 ?_
 refine a0P rfl (fun hb11=> ?_) (fun hb11=> ?_)
 ·have hm:data.length%64≠0:=by have h:=hb11;simp only[bne_iff_ne,ne_eq]at h;omega
  refine b0V (fun w h=>b0Y h) ?_
  refine go 1 ?_
  refine c0G rfl Hb.o rfl (c0S 4) gSp ?_
  refine ns ?_
  refine pn ?_
  exact b0W (c0L (e1.trans (by rw[if_pos hm];rfl))) idh gSp
 ·have hm: ¬data.length%64≠0:=by have h:=hb11;simp only[bne_eq_false_iff_eq]at h;omega
  rw[if_neg hm]at e1
  refine go 8 ?_
  rw[b0F]
  refine go 1 ?_
  rw[show((data.length:Nat):Int)/64=((data.length/64:Nat):Int) by omega]
  refine a0X rfl Hb.o rfl (z0G W a t x at_ ((data.length/64:Nat):Int) (by rw[e1]at hnb;exact c0I hnb)) gSp (fun v t2 ho=> ?_) (fun e t ho=>by refine pn ?_;(refine b0G (fun w h=>b0Y h) ?_;exact b0W (c0L (e1.trans (a0I ho))) idh gSp))
  refine ns ?_
  refine go 1 ?_
  obtain⟨h1,h2,h3,h4,h5⟩:=v0Z ho
  rw[h1]at ho ⊢
  have e2:=e1.trans (a0A ho)
  clear ho
  obtain⟨k,rfl⟩: ∃k:Nat,at_=k:=⟨at_.toNat,by omega⟩
  rw[Int.toNat_natCast]at e2
  refine go 6 ?_
  refine a0X rfl Hb.o rfl (l1J W hW a t b4 x k data (by omega) (by omega) (by rw[e2]at hnb;exact c0I hnb)) gSp (fun v ⟨t3,ox⟩ ho=> ?_) (fun e t ho=>by refine pn ?_;(obtain⟨t1,t2⟩:=t;obtain⟨hx,hm⟩:=q0O ho;obtain rfl:t2=none:=congrArg Prod.snd hx;have hm:_=(Out.err e,t1):=hm;simp only[RSo,List.cons_append,List.nil_append];have e4:i0H id (k:Int) data s=(.err e,t1):=e2.trans (a0I hm);refine b0G (fun w h=>b0Y h) ?_;exact b0W (c0L e4) idh gSp))
  refine ns ?_
  refine go 1 ?_
  obtain⟨y,hx,hm⟩:=s0L ho
  obtain rfl:ox=some y:=congrArg Prod.snd hx
  have hm:_=(Out.ok y,t3):=hm
  simp only[RSo,List.cons_append,List.nil_append]
  have e3:i0H id (k:Int) data s=l0Q y t3:=e2.trans (a0A hm)
  refine go 4 ?_
  refine a0X rfl Hb.o rfl (u0Y W a t3 y (by rw[e3]at hnb;exact hnb)) gSp (fun v t4 ho=> ?_) (fun e t ho=>by refine pn ?_;(refine b0G (fun w h=>b0Y h) ?_;exact b0W (c0L (e3.trans ho)) idh gSp))
  refine ns ?_
  refine go 1 ?_
  refine b0G (fun w h=>b0Y h) ?_
  exact fR (s:=(t4,.done ())) (m0I (e3.trans ho))
theorem y1E (W:World) (hW:h0W W) (a:Ad) (s:St) (id at_:Int) (data:B) (hbits:s.bits≤256) (hdl:data.length≤100000) (hvl:s.vols.length≤1000) (hnb:(h0I id at_ data s).1≠ .big):
 a0F prog 21 #[ptr a.core,.int .u32 id,.int .i64 at_,b0B data] (RS W a s) (Ran fT (RS W a) a0J (h0I id at_ data s)):=by
 have e0:h0I id at_ data s=a0B (h0V (e0O 0 (i0H id at_ data))) (fun r=>ret r.1) s:=rfl
 refine en func21 ntmps21 fun R w0=> ?_
 refine go 2 ?_
 refine bx fun b4=> ?_
 refine bx fun b5=> ?_
 refine bx fun b6=> ?_
 refine bx fun b7=> ?_
 refine go 7 ?_
 refine e0K (k0Z (N:= [g0B b4 a,j0O b5 id,p2B b7 data,f0L b6 at_]) gSp) ?_
 refine a0X rfl Hb.o rfl (v0A W a (b2B a b4 b5 b7 b6 id at_ data) (fun _:Unit=>b0D []) 0 65 [ptr b4,ptr b5,ptr b7,ptr b6] (i0H id at_ data) s Hb.o (by omega) hvl (y1D W hW a b4 b5 b7 b6 id at_ data s.bits hbits hdl) (by rw[e0]at hnb;exact c0I hnb)) gSp (fun e ⟨t,oc⟩ ho=> ?_) (fun e t ho=>by refine pn ?_;(exact(m0F ho).elim))
 refine ns ?_
 refine go 3 ?_
 exact rR idh (e0.trans (a0A (s0M ho)))
end Go.Proofs.Q

/- Part of the proof; no statement of its own. -/
import Derived.Test.YtpinhnikemamjaaGreatDoorD30
import Derived.Test.YtpinhnikemamjaaGreatDoorD19
import Derived.Test.YtpinhnikemamjaaGreatDoorD17
import Derived.Test.YtpinhnikemamjaaGreatDoorD20
import Derived.Test.YtpinhnikemamjaaGreatDoorD18
import Derived.Test.YtpinhnikemamjaaGreatDoorD06
import Derived.Test.YtpinhnikemamjaaGreatDoorProg
import Derived.KernelRfl
import Derived.Test.YtpinhnikemamjaaGreatDoorD08
import Derived.Test.YtpinhnikemamjaaGreatDoorD24
import Derived.Test.YtpinhnikemamjaaGreatDoorD28
import Derived.Test.YtpinhnikemamjaaGreatDoorD27
set_option linter.all false
set_option maxRecDepth 4000
set_option maxHeartbeats 4000000
attribute [local irreducible] Go.Sl.a0P Go.Sl.OW Go.Sl.CW Go.Sl.OS Go.Sl.OM Go.Sl.OMf Go.Sl.KM
namespace Go.Proofs.Q
open Go.Sl Go.Sb Tryz
abbrev cX (b:Nat) (x:Int):a0E:=pts b (.cells #[.int .u64 x] 320 (0,0))
theorem y2P {m:Nat} (h:m=16∨m=32) (y:Int):bits .and .u64 y (IntKind.u64.wrap ((m:Int)-1))=y% (m:Int):=by
 rcases h with rfl|rfl
 ·exact i2K .u64 y
 ·exact s1Q .u64 y
theorem w2E (g n cap a b:Nat) (xs:List Int) (A:xs.length=n) (B:n≤16) (p:a+13≤b) (hb:b≤n):
 a0G prog 212 #[slU g n cap,.int .i64 a,.int .i64 b] [f0V g n cap xs] (b0P (fun ys:List Int=>SP a b xs ys) (fun _=> .tuple #[]) (fun ys=> [f0V g n cap ys])):=by
 obtain⟨l,f⟩: ∃l:Nat,b=a+l:=⟨b-a,by omega⟩;subst f;have h:=x1B (x:=l) (by omega);obtain⟨m,j⟩: ∃m:Nat,2^r0C l=m:=⟨_,rfl⟩;rw[j]at h;have k:=y2N l (by omega);rw[j]at k;refine en func212 ntmps212 fun R w0=> ?_;refine go 7 ?_;rw[show((a+l:Nat):Int)- (a:Int)=(l:Int) by omega];refine go 12 ?_;refine al fun e=> ?_;refine cg 6 (k) ?_;refine go 13 ?_;rw[show(a:Int)+(l:Int)/4*2-1=((a+l/4*2-1:Nat):Int) by omega];refine go 2 ?_;generalize IntKind.u64.wrap (l:Int)=x0;refine a0V (X:= {y:Nat×Int×List Int // a+l/4*2-1≤y.1∧y.1≤a+l/4*2+2∧SP a (a+l) xs y.2.2}) (fun y=> [(0,slU g n cap),(1,.int .i64 a),(6,.int .i64 l),(7,pU e),(8,.int .u64 m),(9,.int .i64 y.1.1)]) (fun y=> [f0V g n cap y.1.2.2,cX e y.1.2.1,R]) (fun y=>a+l/4*2+2-y.1.1) ⟨(a+l/4*2-1,x0,xs),by omega,by(show a+l/4*2-1≤_);omega,SP.refl _ _ _⟩ gSu gSp ?_;rintro⟨⟨i,x,ys⟩,hi1,hi2,hsp⟩ m0 hm0
 try simp only at hm0
 try dsimp only
 dsimp only at hi1 hi2 hsp;have z:=hsp.len;refine go 13 ?_;refine a0O rfl (fun d=> ?_) (fun d=> ?_)
 ·have s:i≤a+l/4*2+1:=by have:=of_decide_eq_true d;omega
  refine ce 6 (y2O e x) ?_;rintro y _;refine ns ?_;refine go 1 ?_;refine a0D (k1O rfl rfl) ?_;refine a0D (o0O rfl rfl) ?_;rw[y2P (by omega)];have u:=Int.emod_nonneg y (show(m:Int)≠0 by omega);have v:=Int.emod_lt_of_pos y (show 0<(m:Int) by omega);obtain⟨q,t⟩: ∃q:Nat,y% (m:Int)=q:=⟨(y% (m:Int)).toNat,by omega⟩;have w:q<m:=by omega
  rw[t];refine go 1 ?_;rw[show IntKind.i64.wrap (q:Int)=(q:Int)from e0P .i64 _ (by omega) (by show(q:Int)<9223372036854775808;omega)];refine go 3 ?_;refine j0D (X:= {r:Nat // r<l}) (fun r=> [(0,slU g n cap),(1,.int .i64 a),(6,.int .i64 l),(7,pU e),(8,.int .u64 m),(9,.int .i64 i),(10,.int .i64 r.1)]) (fun r=> [f0V g n cap ys,cX e y,R]) ?_ ?_
  ·refine go 7 ?_;refine a0O rfl (fun c=> ?_) (fun c=> ?_)
   ·refine go 6 ?_;rw[show(q:Int)- (l:Int)=((q-l:Nat):Int) by have:=of_decide_eq_true c;omega];exact me idh (⟨q-l,by have:=of_decide_eq_true c;omega⟩)
   ·refine go 1 ?_;exact me idh (⟨q,by have:=of_decide_eq_false c;omega⟩)
  rintro⟨r,hr⟩;dsimp only;refine mx (.r 0 11 (.r 12 3 (.two 11 (.hard 15 (.soft 16 (.hard 17 (.soft 18 (.hard 19 .done))))) 15 (.hard 11 (.soft 16 (.hard 17 (.soft 18 (.hard 19 .done)))))))) [] ?_;refine go 14 ?_;refine p0R rfl rfl ?_ ?_
  ·refine a0D (a0X Sc.o rfl gFd (d0C (i:=a+r) (by omega) (by omega))) ?_;refine go 3 ?_;refine a0D (a0X Sc.o rfl gFd (d0C rfl (by omega))) ?_;refine go 4 ?_;refine c0H (xs':=us (ys.set i (xat ys (a+r)))) Sz.o rfl rfl rfl gFd (by rw[f0L];omega) (f0K rfl) ?_;refine go 4 ?_;refine c0H (xs':=us (swp ys i (a+r))) Sz.o rfl rfl rfl gFd (by rw[f0L,List.length_set];omega) (f0K (i:=a+r) (by omega)) ?_;refine go 9 ?_;rw[show(i:Int)+1=((i+1:Nat):Int) by omega];exact rd idh (⟨(i+1,y,swp ys i (a+r)),by(show _≤i+1);omega,by(show i+1≤_);omega,hsp.trans (SP.swap (by omega) (by omega) (by omega))⟩)
  ·refine a0D (a0X Sc.o rfl gFd (d0C rfl (by omega))) ?_;refine go 3 ?_;refine a0D (a0X Sc.o rfl gFd (d0C (i:=a+r) (by omega) (by omega))) ?_;refine go 4 ?_;refine c0H (xs':=us (ys.set i (xat ys (a+r)))) Sz.o rfl rfl rfl gFd (by rw[f0L];omega) (f0K rfl) ?_;refine go 4 ?_;refine c0H (xs':=us (swp ys i (a+r))) Sz.o rfl rfl rfl gFd (by rw[f0L,List.length_set];omega) (f0K (i:=a+r) (by omega)) ?_;refine go 9 ?_;rw[show(i:Int)+1=((i+1:Nat):Int) by omega];exact rd idh (⟨(i+1,y,swp ys i (a+r)),by(show _≤i+1);omega,by(show i+1≤_);omega,hsp.trans (SP.swap (by omega) (by omega) (by omega))⟩)
 ·refine go 1 ?_;exact fE ys hsp
theorem m2F (g n cap a b:Nat) (xs:List Int) (r:xs.length=n) (s:n≤16) (k:a+13≤b) (hb:b≤n) (j:xs.Nodup):
 a0G prog 215 #[slU g n cap,.int .i64 a,.int .i64 b] [f0V g n cap xs] (b0P (fun y:Bool=>y=true→Srt a b xs) (fun y=> .bool y) (fun _=> [f0V g n cap xs])):=by
 refine en func215 ntmps215 fun R w0=> ?_;refine go 11 ?_;rw[show(a:Int)+1=((a+1:Nat):Int) by omega];refine go 8 ?_;refine a0V (X:=Unit) (fun _=> [(0,slU g n cap),(1,.int .i64 a),(2,.int .i64 b),(7,.int .i64 ((a+1:Nat):Int)),(8,.int .i64 0)]) (fun _=> [f0V g n cap xs,R]) (fun _=>0) () gSu gSp ?_;rintro⟨⟩ m0 hm0
 try simp only at hm0
 try dsimp only
 skip;refine go 12 ?_;refine j0D (X:= {i:Nat // a+1≤i∧i≤b∧Srt a i xs}) (fun y=> [(0,slU g n cap),(1,.int .i64 a),(2,.int .i64 b),(7,.int .i64 y.1)]) (fun _=> [f0V g n cap xs,R]) ?_ ?_
 ·refine go 1 ?_;refine a0V (X:= {i:Nat // a+1≤i∧i≤b∧Srt a i xs}) (fun y=> [(0,slU g n cap),(1,.int .i64 a),(2,.int .i64 b),(7,.int .i64 y.1)]) (fun _=> [f0V g n cap xs,R]) (fun y=>b-y.1) ⟨a+1,Nat.le_refl _,by omega,fun p q _ _ _=>by omega⟩ gSu gSp ?_;rintro⟨i,hi1,hi2,hs⟩ m2 hm2
  try simp only at hm2
  try dsimp only
  skip;refine go 2 ?_;by_cases e:i<b
  ·refine tl 13 ?_;refine go 7 ?_;refine n0H (wg rfl rfl rfl (wTT gT)) (a0X Sc.o rfl gFd (d0C rfl (by omega))) ?_;refine go 4 ?_;refine n0H (wg rfl rfl rfl (wTT gT)) (a0X Sc.o rfl gFd (d0C (i:=i-1) (by omega) (by omega))) ?_;refine go 2 ?_;refine b0X rfl Hb.o rfl (v0Z _ _) gSp ?_;refine ns ?_;refine go 4 ?_;refine a0O rfl (fun c=> ?_) (fun c=> ?_)
   ·have f:xat xs (i-1)<xat xs i:=by
     have l: ¬xat xs i<xat xs (i-1):=by simpa using c
     have m:=c1N j (show i<xs.length by omega) (show i-1<xs.length by omega) (by omega);omega
    refine go 8 ?_;rw[show(i:Int)+1=((i+1:Nat):Int) by omega];exact rd idh (⟨i+1,by omega,by omega,hs.push fun _=>f⟩)
   ·refine go 1 ?_;exact me idh (⟨i,hi1,hi2,hs⟩)
  ·refine tl 13 ?_;refine go 21 ?_;exact me idh (⟨i,hi1,hi2,hs⟩)
 rintro⟨i,hi1,hi2,hs⟩;dsimp only;refine go 7 ?_;rw[show((i:Int) == (b:Int))=decide (i=b) by rw[Bool.eq_iff_iff];simp;omega];refine go 1 ?_;refine a0O rfl (fun d=> ?_) (fun d=> ?_)
 ·have e:i=b:=of_decide_eq_true d;refine go 5 ?_;exact rE idh true (fun _=>e▸hs)
 ·refine go 17 ?_;exact rE idh false (fun h=>(by cases h))
theorem s2Q (g n cap:Nat) (D:n≤16): ∀(k a b lim:Nat) (xs:List Int),xs.length=n→a≤b→b≤n→b<a+k→b≤a+lim+12→lim≤64→xs.Nodup→(∀i,0<a→a≤i→i<b→xat xs (a-1)<xat xs i)→
 a0G prog 179 #[slU g n cap,.int .i64 a,.int .i64 b,.int .i64 lim] [f0V g n cap xs] (b0P (fun ys:List Int=>SP a b xs ys∧Srt a b ys) (fun _=> .tuple #[]) (fun ys=> [f0V g n cap ys])):=by
 intro k
 induction k with
 |zero=>intro a b lim xs L s hb K;omega
 |succ k ih=>
  intro a b lim xs L s hb K w M e x;refine en func179 ntmps179 fun R w0=> ?_;refine go 11 ?_;refine a0V (X:= {y:Nat×Nat×Nat×Bool×Bool×List Int // Pq a b xs y.1 y.2.1 y.2.2.2.2.2∧y.2.1≤y.1+y.2.2.1+12∧y.2.2.1≤lim}) (fun y=> [(0,slU g n cap),(1,.int .i64 y.1.1),(2,.int .i64 y.1.2.1),(3,.int .i64 y.1.2.2.1),(8,.bool y.1.2.2.2.1),(9,.bool y.1.2.2.2.2.1)]) (fun y=> [f0V g n cap y.1.2.2.2.2.2,R]) (fun y=>y.1.2.1-y.1.1) ⟨(a,b,lim,true,true,xs),Pq.new s x,w,Nat.le_refl _⟩ gSu gSp ?_;rintro⟨⟨c,d,lm,wb,wp,ys⟩,hq,hll,hlm2⟩ m0 hm0
  try simp only at hm0
  try dsimp only
  dsimp only at hq hll hlm2;have v:=hq.le;have Q:=hq.sp.len;have G:=hq.sp.nodup e;refine go 8 ?_;rw[show(d:Int)- (c:Int)=((d-c:Nat):Int) by omega];refine go 8 ?_;refine a0O rfl (fun h=> ?_) (fun h=> ?_)
  ·refine ce 5 (r2D g n cap c d ys (by omega) (by omega) (by omega) (by omega) G) ?_;rintro zs ⟨q,J⟩;refine ns ?_;refine go 2 ?_;exact rE idh zs ⟨hq.sp.trans (q.mono v.1 v.2.2),hq.done zs q J⟩
  ·have H:12<d-c:=by have:=of_decide_eq_false h;omega
   refine go 12 ?_;refine j0D (X:= {y:Nat×List Int // Pq a b xs c d y.2∧d≤c+y.1+13∧y.1≤lim}) (fun y=> [(0,slU g n cap),(1,.int .i64 c),(2,.int .i64 d),(3,.int .i64 y.1.1),(8,.bool wb),(9,.bool wp),(10,.int .i64 ((d-c:Nat):Int))]) (fun y=> [f0V g n cap y.1.2,R]) ?_ ?_
   ·refine go 6 ?_;refine a0O rfl (fun t=> ?_) (fun t=> ?_)
    ·refine ce 5 (w2E g n cap c d ys (by omega) D (by omega) (by omega)) ?_;rintro zs q;refine ns ?_;refine go 7 ?_;rw[show(lm:Int)-1=((lm-1:Nat):Int) by omega];exact me idh (⟨(lm-1,zs),hq.mix e (by omega) q,by(show d≤c+(lm-1)+13);omega,by(show lm-1≤lim);omega⟩)
    ·refine go 1 ?_;exact me idh (⟨(lm,ys),hq,by(show d≤c+lm+13);omega,hlm2⟩)
   rintro⟨⟨l2,y2⟩,hq2,hl2,hl3⟩;dsimp only at hq2 hl2 hl3 ⊢;have I:=hq2.sp.len;have l:=hq2.sp.nodup e;refine ce 5 (w2C g n cap c d y2 (by omega) D (by omega) (by omega)) ?_;rintro⟨p,hint⟩ ⟨hp,hh⟩;refine ns ?_;dsimp only at hp hh ⊢;refine go 14 ?_;refine b0S rfl (by rcases hh with rfl|rfl<;>rfl) ?_;refine go 2 ?_;refine r0I ([(0,slU g n cap),(1,.int .i64 c),(2,.int .i64 d),(3,.int .i64 l2),(10,.int .i64 ((d-c:Nat):Int)),(11,.int .i64 p)]) ([f0V g n cap y2,R]) ?_ ?_
   ·refine go 1 ?_;rcases Bool.eq_false_or_eq_true wb with E|E
    ·rcases Bool.eq_false_or_eq_true wp with F|F
     ·refine go 11 ?_;refine a0O rfl (fun u=> ?_) (fun u=> ?_)
      ·refine ce 5 (m2F g n cap c d y2 (by omega) D (by omega) (by omega) l) ?_;rintro y P;refine ns ?_;refine go 2 ?_;refine a0O rfl (fun j=> ?_) (fun j=> ?_)
       ·exact rE idh y2 ⟨hq2.sp,hq2.done y2 (SP.refl _ _ _) (P j)⟩
       ·refine go 1 ?_;exact h0W idh gSu gSp
      ·refine go 1 ?_;exact h0W idh gSu gSp
     ·refine go 13 ?_;exact h0W idh gSu gSp
    ·refine go 13 ?_;exact h0W idh gSu gSp
   refine r0I ([(0,slU g n cap),(1,.int .i64 c),(2,.int .i64 d),(3,.int .i64 l2),(10,.int .i64 ((d-c:Nat):Int)),(11,.int .i64 p)]) ([f0V g n cap y2,R]) ?_ ?_
   ·refine go 1 ?_;by_cases C:0<c
    ·refine tl 12 ?_;refine go 7 ?_;refine n0H (wg rfl rfl rfl (wTT gT)) (a0X Sc.o rfl gFd (d0C (i:=c-1) (by omega) (by omega))) ?_;refine go 3 ?_;refine n0H (wg rfl rfl rfl (wTT gT)) (a0X Sc.o rfl gFd (d0C rfl (by omega))) ?_;refine go 2 ?_;refine b0X rfl Hb.o rfl (v0Z _ _) gSp ?_;refine ns ?_;refine go 4 ?_;refine b0S rfl (by have:=hq2.sep p C hp.1 hp.2;simpa using this) ?_;refine go 1 ?_;exact h0W idh gSu gSp
    ·refine tl 12 ?_;refine go 20 ?_;exact h0W idh gSu gSp
   refine ce 6 (y2M g n cap c d p y2 (by omega) (by omega) (by omega) (by omega) hp l) ?_;rintro⟨m,al,zs⟩ ⟨q,hm⟩;refine ns ?_;dsimp only at q hm ⊢;have O:=hm.1;have N:=hm.2.1;have f:=hq2.mix e (by omega) q;have S:=f.sp.len;have z:=f.sp.nodup e;refine go 39 ?_;refine a0O rfl (fun r=> ?_) (fun r=> ?_)
   ·refine ce 14 (ih c m l2 zs (by omega) (by omega) (by omega) (by omega) (by omega) (by omega) z (f.sepL hm)) ?_;rintro ws ⟨A,B⟩;refine ns ?_;refine go 7 ?_;rw[show(m:Int)+1=((m+1:Nat):Int) by omega];refine e1A idh (⟨(m+1,d,l2,decide (((d-c:Nat):Int)/8≤(m:Int)- (c:Int)),al,ws),f.left e (by omega) hm A B,by(show d≤m+1+l2+12);omega,hl3⟩) (by(show d- (m+1)<_);omega) gSu gSp
   ·refine go 14 ?_;rw[show(m:Int)+1=((m+1:Nat):Int) by omega];refine ce 1 (ih (m+1) d l2 zs (by omega) (by omega) (by omega) (by omega) (by omega) (by omega) z hm.sepR) ?_;rintro ws ⟨A,B⟩;refine ns ?_;refine go 6 ?_;refine e1A idh (⟨(c,m,l2,decide (((d-c:Nat):Int)/8≤(d:Int)- (m:Int)),al,ws),f.right e (by omega) hm A B,by(show m≤c+l2+12);omega,hl3⟩) (by(show m-c<_);omega) gSu gSp
section
section
variable {ν:Type} {ev:ν→Value}
theorem w2F (l i b:Nat) (m:List (Int×ν)) (J:List Int→a0E) (s: ∀acc k,(∃rest,(m.map (·.1)).Perm (acc++k::rest))→b1M prog l #[u4 k] [J acc] (fun e L'=>e= .returned (.bool true)∧L'= [J (acc++ [k])])):
 a0G prog 136 #[.func (.yield l) #[] #[],ptr i] [J [],pts i (.cells #[.map (some b)] 57 (0,0)),b0K b e0J ev m]
  (b0P (fun acc:List Int=>acc.Perm (m.map (·.1))) (fun _=> .tuple #[]) (fun acc=> [J acc,b0K b e0J ev m])):=by
 refine en func136 ntmps136 fun R w0=> ?_;refine go 3 ?_;refine u1U (ek:=e0J) (ev:=ev) (m:=m) c0Y.o rfl gFd (fun r=> ?_);refine go 3 ?_;refine a0V (X:= {y:List Int×List (Int×ν)×Option (Int×ν) // (m.map (·.1)).Perm (y.1++y.2.1.map (·.1))}) (fun y=> [(0,.func (.yield l) #[] #[]),(5,ptr r)]) (fun y=> [J y.1.1,t0R r b e0J ev m y.1.2.1 y.1.2.2,R]) (fun y=>y.1.2.1.length) ⟨([],m,none),List.Perm.refl _⟩ gSu gSp ?_;rintro⟨⟨acc,todo,cur⟩,hp⟩ m0 hm0
 try simp only at hm0
 try dsimp only
 dsimp only at hp;refine go 2 ?_;refine b2U (ek:=e0J) (ev:=ev) rfl gFd (fun z a n p=> ?_);refine a0D (s2N rfl) ?_;refine go 3 ?_;refine a0O rfl (fun c=> ?_) (fun c=> ?_)
 ·obtain⟨k,rfl⟩:=Option.isSome_iff_exists.1 c;have j:todo.length=a.length+1:=by have:=n.length_eq;simpa using this
  have d:(m.map (·.1)).Perm (acc++k.1::a.map (·.1)):=hp.trans (List.Perm.append_left _ (by simpa using n.map (·.1)));refine go 5 ?_;refine a0D (b2V (ek:=e0J) (ev:=ev) rfl gFd) ?_;refine go 5 ?_;refine b1N ?_;refine u0G (d0H rfl) ?_;refine u0G (d0H rfl) ?_;refine i1S rfl rfl (s acc k.1 ⟨_,d⟩) gSp ?_;refine ns ?_;refine u0G (v0A rfl) ?_;refine s1V ?_;refine go 3 ?_;exact rd idh (⟨(acc++ [k.1],a,some k),by(show(m.map (·.1)).Perm (acc++ [k.1]++a.map (·.1)));rw[List.append_assoc];exact d⟩)
 ·refine go 1 ?_;have g:z=none:=by cases z with|none=>rfl|some _=>cases c
  have q:=p g;subst q;have f:acc.Perm (m.map (·.1)):=(by simpa using hp:(m.map (·.1)).Perm acc).symm;refine b0F (fun w h=>u1T ((show Fnd _ (t0R r b e0J ev m a z) _ from gFd).sat h)) ?_;exact fE acc f
end
end
end Go.Proofs.Q
namespace Go.Proofs.Q
open Go Go.Sl Tryz
instance:Ag prog 244 2:=⟨kr⟩
instance:Fl prog 244 0 0:=⟨kr⟩
instance:Hb prog 205:=⟨kr⟩
instance:Hb prog 255:=⟨kr⟩
instance:Hb prog 256:=⟨kr⟩
instance:Sc prog 241:=⟨kr⟩
instance:Tsl prog 241 244 2:=⟨kr⟩
instance:Sz prog 241 1:=⟨kr⟩
instance:Sz prog 244 2:=⟨kr⟩
instance:Ttb prog 244 16:=⟨kr⟩
instance:Zr prog 241 (.slice none 0 0):=⟨kr⟩
instance:Zr prog 244 (.agg #[.int .i64 0,.int .i64 0]):=⟨kr⟩
instance:Pl prog 244 ([(0,1),(1,1)],.agg #[.int .i64 0,.int .i64 0]):=⟨kr⟩
instance:Hb prog 84:=⟨kr⟩
instance:Hb prog 85:=⟨kr⟩
instance:Hb prog 86:=⟨kr⟩
instance:Hb prog 87:=⟨kr⟩
instance:Pl prog 154 ([(0,1),(1,1)],.agg #[.slice none 0 0,.int .i64 0]):=⟨kr⟩
instance:Pl prog 194 ([(0,1),(1,1)],.agg #[.pointer none,.pointer none]):=⟨kr⟩
instance:Pl prog 210 ([(0,1),(1,1),(2,1)],.agg #[.pointer none,.int .i64 0,.map none]):=⟨kr⟩
instance:Pl prog 59 ([(0,1),(1,1),(2,1),(3,1),(4,1)],.agg #[.pointer none,.pointer none,.map none,.int .u32 0,.int .u32 0]):=⟨kr⟩
instance:Pl prog 92 ([(0,1),(1,1),(2,1),(3,1),(4,1),(5,1),(6,1)],.agg #[.pointer none,.pointer none,.pointer none,.map none,.map none,.slice none 0 0,.int .i64 0]):=⟨kr⟩
instance:Hb prog 99:=⟨kr⟩
instance:Pl prog 173 ([(0,1),(1,1),(2,1),(3,1)],.agg #[.slice none 0 0,.bool false,.int .i64 0,.bool false]):=⟨kr⟩
instance:Pl prog 175 ([(0,1),(1,1)],.agg #[.string ByteArray.empty,.string ByteArray.empty]):=⟨kr⟩
instance:Sz prog 171 1:=⟨kr⟩
instance:Ttb prog 175 32:=⟨kr⟩
instance:Zr prog 175 (.agg #[.string ByteArray.empty,.string ByteArray.empty]):=⟨kr⟩
instance:Hb prog 58:=⟨kr⟩
instance:Hb prog 59:=⟨kr⟩
instance:Hb prog 64:=⟨kr⟩
instance:Hb prog 65:=⟨kr⟩
instance:Hb prog 66:=⟨kr⟩
instance:Hb prog 68:=⟨kr⟩
instance:Hb prog 69:=⟨kr⟩
instance:Hb prog 143:=⟨kr⟩
instance:Hb prog 144:=⟨kr⟩
instance:Hb prog 92:=⟨kr⟩
instance:Hb prog 98:=⟨kr⟩
instance:Pl prog 50 ([(0,1),(1,1),(2,1),(3,1),(4,1),(5,1)],.agg #[.int .u32 0,.int .u32 0,.bool false,.int .i64 0,.int .i64 0,.int .u32 0]):=⟨kr⟩
instance:Hb prog 137:=⟨kr⟩
instance:Hb prog 138:=⟨kr⟩
instance:Hb prog 93:=⟨kr⟩
instance:Sc prog 165:=⟨kr⟩
instance:Fl prog 59 3 3:=⟨kr⟩
instance:Fl prog 59 4 4:=⟨kr⟩
instance:Hb prog 116:=⟨kr⟩
instance:Hb prog 181:=⟨kr⟩
instance:Hb prog 117:=⟨kr⟩
end Go.Proofs.Q
namespace Go.Proofs.Q
open Go.Sl Go.Sb Tryz
section
attribute [local semireducible] Sl.a0P Sl.OW Sl.CW Sl.OS Sl.OM Sl.OMf Sl.KM
section
variable {c:Cx} {op:Oper} {env:List (Nat×Value)} {L M:List a0E} {a:Ad} {s:St} {v:Value}
theorem m1U (hL:Fnd L (HL a s) M) (h: ∀by_ gv gc o,Sl.a0P c op env (e0K a by_ o s.log s.depth::(TT a by_ gv gc s++M)) v):Sl.a0P c op env L v:=by
 intro act w b;obtain⟨x,f⟩:=g0K.1 (hL.sat b.sat);have d:=b0M.1 f;obtain⟨by_,gv,gc,o⟩:=x;simp only[hlV,List.cons_append]at d;have e:=(u0D.1 (d.perm (List.Perm.swap _ _ _))).2;exact h by_ gv gc o act w ⟨b.size,b.slots,b.defers,e,b.like⟩
end
section
variable {α:Type} {m:M α} {s t:St} {x:St×Car α}
theorem x1C {u:Unit} (h:f0P m (s,.start)=(.ok u,x)): ∃a,x=(x.1,.done a)∧m s=(.ok a,x.1):=by
 unfold f0P at h;simp only at h;split at h<;>cases h
 rename_i e;exact⟨_,rfl,e⟩
theorem r1H {e:Int} (h:f0P m (s,.start)=(.err e,x)):x=(x.1,.lost)∧m s=(.err e,x.1):=by
 unfold f0P at h;simp only at h;split at h<;>cases h
 rename_i e;exact⟨rfl,e⟩
theorem f1W:(f0P m (s,.start)).1≠ .big↔(m s).1≠ .big:=by
 unfold f0P;simp only;split<;>(rename_i e;rw[e];simp)
theorem m0W {a:α} (h:m s=(.ok a,t)):f0P m (s,.start)=(.ok (),(t,.done a)):=by unfold f0P;simp only[h]
theorem c0S {e:Int} (h:m s=(.err e,t)):f0P m (s,.start)=(.err e,(t,.lost)):=by unfold f0P;simp only[h]
end
def u0Y {α:Type} (b:a0E) (c:α→a0E):Car α→a0E
 | .start=>b
 | .done a=>c a
 | .lost=>b0E []
abbrev RSC {α:Type} (W:World) (a:Ad) (A0:a0E) (A1:α→a0E) (x:St×Car α):List a0E:=RS W a x.1++ [u0Y A0 A1 x.2]
abbrev f0G (b:Nat) (a:Ad):a0E:=pts b (.cells #[ptr a.core] 35 (0,0))
abbrev f0W (b:Nat) (n:Int):a0E:=pts b (.cells #[.int .i64 n] 3 (0,0))
abbrev j0V (b:Nat) (n:Int):a0E:=pts b (.cells #[.int .u32 n] 47 (0,0))
abbrev g2T (b:Nat) (g:FuncId) (cap:List Value):a0E:=pts b (.cells #[.func (.func g) #[] cap.toArray] 1 (0,0))
theorem r2E (n:Int):PB (o0R n):=s0W _ (fun s=> {s with keep:=max n 0}) fun _=>rfl
theorem r2F (more:Nat):PB (Go.Sb.k0C more):=fun s=>by
 unfold Go.Sb.k0C;refine b0L (r2E _) (fun _ t=> ?_) s;split<;>rfl
abbrev r0U {α:Type} (W:World) (a:Ad) (A0:a0E) (A1:α→a0E) (g:FuncId) (cap:List Value) (bits:Nat) (m:M α):Prop:= ∀t:St,t.bits=bits→(m t).1≠ .big→
 a0G prog g cap.toArray (RS W a t++ [A0]) (Ran fT (RSC W a A0 A1) i0S (f0P m (t,.start)))
abbrev g2U (a:Ad) (A0:a0E) (b0 b1 b2:Nat) (more:Nat) (g:FuncId) (cap:List Value):a0E:=b0E [f0G b0 a,f0W b1 more,g2T b2 g cap,A0]
attribute [local irreducible] Sl.a0P Sl.OW Sl.CW Sl.OS Sl.OM Sl.OMf Sl.KM
theorem m2G {α:Type} (W:World) (a:Ad) (x:a0E) (G:α→a0E) (b0 z A more:Nat) (g:FuncId) (cap:List Value) (m:M α) (s:St) (hb:f0H prog g=true) (J:more≤1000) (K:s.vols.length≤1000)
 (H:r0U W a x G g cap s.bits m) (p:(e0M more m s).1≠ .big):
 a0G prog 116 #[ptr b0,ptr z,ptr A] (RS W a s++ [g2U a x b0 z A more g cap]) (Ran fT (RSC W a (g2U a x b0 z A more g cap) G) i0S (f0P (e0M more m) (s,.start))):=by
 have i:(Go.Sb.k0C more s).1≠ .big:=c0I p;have k:(Go.Sb.k0C more s).2.bits=s.bits:=r2F more s;obtain⟨room,f⟩: ∃r:Int,r=2*((s.vols.length+more:Nat):Int):=⟨_,rfl⟩;have l:Go.Sb.k0C more s=a0B (o0R room) (fun _ s=>if 0<more∧(a0Y s:Int)<room then(.err 8,s)else(.ok (),s)) s:=by unfold Go.Sb.k0C;rw[f]
 have n:e0M more m s=a0B (Go.Sb.k0C more) (fun _=>m) s:=rfl;refine ns ?_;by_cases I:more=0
 ·refine en func116 ntmps116 fun R w0=> ?_;refine l0C (show Fnd _ (b0E [f0G b0 a,f0W z more,g2T A g cap,x]) _ from gFd) ?_;refine ns ?_;refine go 5 ?_;refine b0V (j0R Sc.o rfl gFd rfl) ?_;refine b0V (m1U gFd fun by_ gv gc o=>by rw[d0B];simp only[List.cons_append,List.nil_append];exact k1Z c0Y.o rfl gFd) ?_;refine go 3 ?_;rw[show 2*(((s.vols.length:Nat):Int)+((more:Nat):Int))=room by rw[f];omega];refine go 8 ?_;refine a0D (j0R Sc.o rfl gFd rfl) ?_;refine go 1 ?_;refine a0U rfl Hb.o rfl (m1B W a s room (by rw[l]at i;exact c0I i)) gSp (fun u t d=> ?_) (fun e t d=>by refine pn ?_;(have b:Go.Sb.k0C more s=(.err e,t):=(by rw[l];exact a0F d);refine b0F (fun w h=>c0C h) ?_;exact b0W (c0S (n.trans (a0F b))) idh gSp));refine ns ?_;refine go 1 ?_;have b:Go.Sb.k0C more s=(.ok (),t):=by rw[l,a0A d,if_neg (by omega)]
  rw[b]at k;refine go 22 ?_;refine a0U rfl hb rfl (H t k (p0H p b)) gSp (fun v ⟨C,E⟩ d=> ?_) (fun e t d=>by refine pn ?_;(obtain⟨t1,F⟩:=t;obtain⟨q,c⟩:=r1H d;obtain rfl:F= .lost:=congrArg Prod.snd q;have c:_=(Out.err e,t1):=c;exact b0W (c0S (n.trans ((a0A b).trans c))) idh gSp));refine ns ?_;refine go 1 ?_;obtain⟨y,q,c⟩:=x1C d;obtain rfl:E= .done y:=congrArg Prod.snd q;have c:_=(Out.ok y,C):=c;simp only[RSC,u0Y,List.cons_append,List.nil_append];exact fR (s:=(C,.done y)) (m0W (n.trans ((a0A b).trans c)))
 ·have D:0<more:=by omega
  refine en func116 ntmps116 fun R w0=> ?_;refine l0C (show Fnd _ (b0E [f0G b0 a,f0W z more,g2T A g cap,x]) _ from gFd) ?_;refine ns ?_;refine go 5 ?_;refine b0V (j0R Sc.o rfl gFd rfl) ?_;refine b0V (m1U gFd fun by_ gv gc o=>by rw[d0B];simp only[List.cons_append,List.nil_append];exact k1Z c0Y.o rfl gFd) ?_;refine go 3 ?_;rw[show 2*(((s.vols.length:Nat):Int)+((more:Nat):Int))=room by rw[f];omega];refine go 8 ?_;refine a0D (j0R Sc.o rfl gFd rfl) ?_;refine go 1 ?_;refine a0U rfl Hb.o rfl (m1B W a s room (by rw[l]at i;exact c0I i)) gSp (fun u t d=> ?_) (fun e t d=>by refine pn ?_;(have b:Go.Sb.k0C more s=(.err e,t):=(by rw[l];exact a0F d);refine b0F (fun w h=>c0C h) ?_;exact b0W (c0S (n.trans (a0F b))) idh gSp));refine ns ?_;refine go 1 ?_;have B:=d;refine go 10 ?_;refine b0Z (j0R Sc.o rfl gFd rfl) (wg rfl rfl rfl (wTT gT)) ?_;refine cg 1 (f2L a t) ?_;refine go 5 ?_;refine a0O rfl (fun j=> ?_) (fun j=> ?_)
  ·have b:Go.Sb.k0C more s=(.err 8,t):=by rw[l,a0A B,if_pos ⟨D,of_decide_eq_true j⟩]
   refine b0U (fun w h=>c0C h) ?_;refine go 1 ?_;refine c0A rfl Hb.o rfl (c0M 8) gSp ?_;refine ns ?_;refine pn ?_;exact b0W (c0S (n.trans (a0F b))) idh gSp
  ·have b:Go.Sb.k0C more s=(.ok (),t):=by rw[l,a0A B,if_neg (fun h=>of_decide_eq_false j h.2)]
   rw[b]at k;refine go 4 ?_;refine a0U rfl hb rfl (H t k (p0H p b)) gSp (fun v ⟨C,E⟩ d=> ?_) (fun e t d=>by refine pn ?_;(obtain⟨t1,F⟩:=t;obtain⟨q,c⟩:=r1H d;obtain rfl:F= .lost:=congrArg Prod.snd q;have c:_=(Out.err e,t1):=c;exact b0W (c0S (n.trans ((a0A b).trans c))) idh gSp));refine ns ?_;refine go 1 ?_;obtain⟨y,q,c⟩:=x1C d;obtain rfl:E= .done y:=congrArg Prod.snd q;have c:_=(Out.ok y,C):=c;simp only[RSC,u0Y,List.cons_append,List.nil_append];exact fR (s:=(C,.done y)) (m0W (n.trans ((a0A b).trans c)))
end
theorem l0O {L N M:List a0E} (hL:b0A L N M) (w:World) (h:Sat w L):Sat w (b0E N::M):=b0M.2 (h.perm hL)
theorem h1J {α:Type} {m:M α} {s t:St} {c:Car α} {e:Int} (h:o0J (f0P m) (s,.start)=(.ok e,(t,c))):(∃a,c= .done a∧e=0)∨(c= .lost∧e≠0):=by
 unfold o0J o0I a0B f0P at h;simp only at h;split at h<;>rename_i b
 ·simp only[Prod.mk.injEq,Out.ok.injEq]at h;obtain⟨rfl,j,d⟩:=h;split at b
  ·cases b
  ·rename_i hd;cases i:m {s with depth:=s.depth+1} with
   |mk o u=>
    rw[i]at b;cases o with
    |ok a=>
     simp only at b;split at b
     ·cases b
     ·cases b;exact .inl ⟨a,d.symm,rfl⟩
    |err e'=>
     simp only at b;split at b
     ·cases b
     ·rename_i f;cases b;exact .inr ⟨d.symm,fun g=>f (.inr g)⟩
    |big=>cases b
 ·cases h
 ·cases h
theorem m0T {α:Type} {m:M α} {s:St} {x:St×Car α} {e:Int} :o0J (f0P m) (s,.start)≠(.err e,x):=by
 unfold o0J a0B;intro h;cases b:o0I (f0P m) (s,.start)with
 |mk o u=>
  rw[b]at h;cases o with
  |ok a=>cases h
  |err e'=>exact m1C _ _ _ _ b
  |big=>cases h
theorem t0A {α:Type} {m:M α} {s t:St} {c:Car α} {e:Int} (h:o0J (f0P m) (s,.start)=(.ok e,(t,c))):i0K m s=(.ok (e,c),t):=by unfold i0K t1U;rw[h]
theorem d1L {α:Type} {m:M α} {s:St} (h:(i0K m s).1≠ .big):(o0J (f0P m) (s,.start)).1≠ .big:=by
 intro e;apply h;unfold i0K t1U;cases a:o0J (f0P m) (s,.start)with
 |mk o u=>
  rw[a]at e;simp only at e;subst e;rfl
theorem w0A {α:Type} (W:World) (a:Ad) (b:a0E) (d:α→a0E) (more:Nat) (g:FuncId) (cap:List Value) (m:M α) (s:St) (hb:f0H prog g=true) (k:more≤1000) (n:s.vols.length≤1000)
 (p:r0U W a b d g cap s.bits m) (l:(i0K (e0M more m) s).1≠ .big):
 a0G prog 64 #[ptr a.core,.int .i64 more,.func (.func g) #[] cap.toArray] (RS W a s++ [b]) (Ran fT (RSC W a b d) a0H (o0J (f0P (e0M more m)) (s,.start))):=by
 have q:=d1L l;refine ns ?_;refine en func64 ntmps64 fun R w0=> ?_;refine go 2 ?_;refine bx fun f=> ?_;refine bx fun i=> ?_;refine bx fun j=> ?_;refine go 8 ?_;refine a0D (j0R Sc.o rfl gFd rfl) ?_;refine go 1 ?_;refine e0X (l0O (N:= [f0G f a,f0W i more,g2T j g cap,b]) gSp) ?_;refine a0U rfl Hb.o rfl (t0V (C:=Car α) W a (u0Y (g2U a b f i j more g cap) d) 116 [ptr f,ptr i,ptr j] (f0P (e0M more m)) s .start Hb.o q (fun h=>m2G W a b d f i j more g cap m {s with depth:=s.depth+1} hb k n p (f1W.1 h))) gSp (fun e ⟨t,r⟩ c=> ?_) (fun e t c=>by refine pn ?_;(exact(m0T c).elim));refine ns ?_;refine go 3 ?_;rcases h1J c with ⟨y,rfl,rfl⟩| ⟨rfl,_⟩
 ·simp only[u0Y];exact n0M c idh rfl rfl gSp
 ·simp only[u0Y];exact n0M c idh rfl rfl gSp
theorem a2B {s:St} {v:Int} (h:(p0Y v s).1≠ .big):s.log.length<1000000000:=t0W h fun a=>by simp[p0Y,a0B,back,a]
theorem g2V {s:St} (v:Int) (h:s.log.length<1000000000):p0Y v s=(.ok (),{s with log:=bk s.depth s.log (.next s.next),next:=v}):=by
 simp[p0Y,a0B,back,show ¬1000000000≤s.log.length by omega]
theorem m2H (W:World) (a:Ad) (s:St) (x:Ent) (b:(u0I x s).1≠ .big):a0G prog 138 #[ptr a.core,e0E x] (RS W a s) (Ran fT (RS W a) e0J (u0I x s)):=by
 obtain⟨y,f⟩: ∃y:Ent,y= {x with id:=s.next,born:=s.epoch} :=⟨_,rfl⟩;have e0:u0I x s=a0B (p0Y (m0Z (s.next+1))) (fun _=>a0B (m0H y) fun _=>ret y.id) s:=by rw[f];rfl
 have g:=a2B (show(p0Y (m0Z (s.next+1)) s).1≠ .big by rw[e0]at b;exact c0I b);rw[a0A (g2V _ g)]at e0;have i:y.id=s.next:=by rw[f]
 refine en func138 ntmps138 fun R w0=> ?_
 try simp only[e0E]
 refine go 2 ?_;refine bx fun j=> ?_;refine go 4 ?_;refine mx (.r 0 9 (.hard 9 (.soft 10 (.hard 11 .done)))) [HL a s] ?_;refine go 3 ?_;refine d0A rfl (j0R Sc.o rfl gFd rfl) ?_;refine go 3 ?_;refine d0A rfl (j0R Sc.o rfl gFd rfl) ?_;refine go 11 ?_;refine b0F (L':=s0M j y::(RS W a s++ [R])) (fun w h=>by rw[f];exact h.re gSp) ?_;refine ns ?_;refine go 2 ?_;refine e0C gFd fun by_ gv gc o k d=> ?_;simp only[d0B,o0F,c0R,List.cons_append,List.nil_append];refine tl 15 ?_;refine go 14 ?_;refine b0V (g1D rfl rfl) ?_;refine go 1 ?_;rw[show IntKind.u32.wrap (s.next+1)=m0Z (s.next+1)from IntKind.wrap_u32 _];refine ce 0 (y1Z a by_ o s.log s.depth s.next (m0Z (s.next+1)) s.epoch g) ?_;rintro e _;refine ns ?_;refine go 1 ?_;refine b0F (c0W (s:= {s with log:=bk s.depth s.log (.next s.next),next:=m0Z (s.next+1)}) k d gSp) ?_;refine go 5 ?_;refine a0U rfl Hb.o rfl (v0Y W a {s with log:=bk s.depth s.log (.next s.next),next:=m0Z (s.next+1)} y (by rw[e0]at b;exact c0I b)) gSp (fun u t c=> ?_) (fun e t c=>by refine pn ?_;exact kx ((by rw[e0];exact a0F c)));refine ns ?_;refine go 9 ?_;exact rR idh (by rw[e0,a0A c];rfl)
abbrev s1I (b:Nat) (g:FuncId) (cap:List Value):a0E:=pts b (.cells #[.func (.func g) #[] cap.toArray] 165 (0,0))
abbrev d1M (W:World) (a:Ad) (AD:a0E) (g:FuncId) (cap:List Value) (bits:Nat) (made:M Ent):Prop:= ∀t:St,t.bits=bits→(made t).1≠ .big→
 a0G prog g cap.toArray (RS W a t++ [AD]) (Ran fT (fun u=>RS W a u++ [AD]) e0E (made t))
abbrev m2I (a:Ad) (AD:a0E) (b0 b1 b2:Nat) (g:FuncId) (cap:List Value):a0E:=b0E [f0G b0 a,s1I b1 g cap,j0V b2 0,AD]
theorem g2W (W:World) (a:Ad) (AD:a0E) (b0 f i:Nat) (g:FuncId) (cap:List Value) (made:M Ent) (bits:Nat) (hb:f0H prog g=true) (k:d1M W a AD g cap bits made):
 r0U W a (m2I a AD b0 f i g cap) (fun id=>j0V i id) 137 [ptr b0,ptr f,ptr i] bits (a0B made u0I):=by
 intro s b d;refine ns ?_;refine en func137 ntmps137 fun R w0=> ?_;refine l0C (show Fnd _ (b0E [f0G b0 a,s1I f g cap,j0V i 0,AD]) _ from gFd) ?_;refine ns ?_;refine mx (.r 0 2 (.hard 2 (.hard 3 (.hard 4 .done)))) [f0G b0 a,s1I f g cap] ?_;refine go 3 ?_;refine a0U rfl hb rfl (k s b (c0I d)) gSp (fun x t c=> ?_) (fun e t c=>by refine pn ?_;(refine b0F (fun w h=>c0C h) ?_;exact b0W (c0S (a0F c)) idh gSp));refine ns ?_;refine go 3 ?_;have j:=c;refine a0U rfl Hb.o rfl (m2H W a t x (p0H d j)) gSp (fun id u c=> ?_) (fun e t c=>by refine pn ?_;(refine b0F (fun w h=>c0C h) ?_;exact b0W (c0S ((a0A j).trans c)) idh gSp));refine ns ?_;refine go 7 ?_;exact fR (s:=(u,.done id)) (m0W ((a0A j).trans c))
def z0M (p:Int×Int):Value:= .tuple #[.int .u32 p.1,.int .i64 p.2]
theorem m1V (W:World) (a:Ad) (AD:a0E) (g:FuncId) (cap:List Value) (made:M Ent) (s:St) (hb:f0H prog g=true) (m:s.vols.length≤1000) (q:d1M W a AD g cap s.bits made) (j:(k0K made s).1≠ .big):
 a0G prog 92 #[ptr a.core,.func (.func g) #[] cap.toArray] (RS W a s++ [AD]) (Ran fT (RS W a) z0M (k0K made s)):=by
 refine ns ?_;by_cases i:16≤s.vols.length
 ·rw[show k0K made s=(.ok (0,13),s) by unfold k0K;rw[if_pos i]];refine en func92 ntmps92 fun R w0=> ?_;refine go 2 ?_;refine bx fun c=> ?_;refine bx fun d=> ?_;refine go 10 ?_;refine a0D (j0R Sc.o rfl gFd rfl) ?_;refine a0D (m1U gFd fun by_ gv gc o=>by rw[d0B];simp only[List.cons_append,List.nil_append];exact k1Z c0Y.o rfl gFd) ?_;refine go 10 ?_;exact rR idh rfl
 ·have e0:k0K made s=a0B (i0K (e0M 1 (a0B made u0I))) (fun r=>ret (if r.1=0 then(b1Z 0 r.2,0)else(0,r.1))) s:=by unfold k0K;rw[if_neg i]
  have u:(i0K (e0M 1 (a0B made u0I)) s).1≠ .big:=by rw[e0]at j;exact c0I j
  refine en func92 ntmps92 fun R w0=> ?_;refine go 2 ?_;refine bx fun c=> ?_;refine bx fun d=> ?_;refine go 10 ?_;refine a0D (j0R Sc.o rfl gFd rfl) ?_;refine a0D (m1U gFd fun by_ gv gc o=>by rw[d0B];simp only[List.cons_append,List.nil_append];exact k1Z c0Y.o rfl gFd) ?_;refine go 8 ?_;refine al fun f=> ?_;refine go 7 ?_;refine e0X (l0O (N:= [f0G c a,s1I d g cap,j0V f 0,AD]) gSp) ?_;refine a0U rfl Hb.o rfl (w0A W a (m2I a AD c d f g cap) (fun id=>j0V f id) 1 137 [ptr c,ptr d,ptr f] (a0B made u0I) s Hb.o (by omega) m (g2W W a AD c d f g cap made s.bits hb q) u) gSp (fun e ⟨t,v⟩ k=> ?_) (fun e t k=>by refine pn ?_;(exact(m0T k).elim));refine ns ?_;refine go 2 ?_;have n:=e0.trans (a0A (t0A k))
  try simp only[RSC]
  refine go 8 ?_;refine a0O rfl (fun b=> ?_) (fun b=> ?_)
  ·have l:e≠0:=by have h:=b;simp only[bne_iff_ne,ne_eq]at h;exact h
   refine go 7 ?_;exact rR idh (by rw[n,if_neg l];rfl)
  ·have l:e=0:=by have h:=b;simp only[bne_eq_false_iff_eq]at h;exact h
   obtain⟨y,rfl,_⟩| ⟨_,p⟩:=h1J k
   rotate_left
   ·exact(p l).elim
   simp only[u0Y];subst l;refine go 10 ?_;exact rR idh (by rw[n,if_pos rfl];rfl)
theorem x1D (W:World) (a:Ad) (b0:Nat) (size:Int) (bits:Nat):d1M W a (f0W b0 size) 93 [ptr b0] bits (ret {g0L with size:=size}):=by
 intro s b c;have d:(f0U {g0L with size:=size}).toArray.size=6:=rfl;refine ns ?_;refine en func93 ntmps93 fun R w0=> ?_;refine go 2 ?_;refine al fun e=> ?_;refine go 5 ?_;refine a0D (s0P (cs:=f0U {g0L with size:=size}) Pl.o rfl (by rfl)) ?_;refine go 3 ?_;exact k0A rfl idh (RV.agg Ag.o rfl (by simp[Value.cells,f0U]) (a0I (by simp[Value.cells,f0U])) RV.nil) rfl gSp
theorem x1E (W:World) (a:Ad) (s:St) (size:Int) (f:s.vols.length≤1000) (c:(f0T size s).1≠ .big):a0G prog 38 #[ptr a.core,.int .i64 size] (RS W a s) (Ran fT (RS W a) z0M (f0T size s)):=by
 by_cases g:size<1
 ·rw[show f0T size s=(.ok (0,4),s) by unfold f0T;rw[if_pos (.inl g)];rfl];refine en func38 ntmps38 fun R w0=> ?_;refine go 2 ?_;refine bx fun b=> ?_;refine go 22 ?_;exact rR idh rfl
 ·by_cases h:2048<size
  ·rw[show f0T size s=(.ok (0,4),s) by unfold f0T;rw[if_pos (.inr h)];rfl];refine en func38 ntmps38 fun R w0=> ?_;refine go 2 ?_;refine bx fun b=> ?_;refine go 22 ?_;exact rR idh rfl
  ·have e0:f0T size s=k0K (ret {g0L with size:=size}) s:=by unfold f0T;rw[if_neg (by omega)]
   rw[e0]at c ⊢;refine en func38 ntmps38 fun R w0=> ?_;refine go 2 ?_;refine bx fun b=> ?_;refine go 22 ?_;refine a0U rfl Hb.o rfl (m1V W a (f0W b size) 93 [ptr b] (ret {g0L with size:=size}) s Hb.o f (x1D W a b size s.bits) c) gSp (fun p t d=> ?_) (fun e t d=>by refine pn ?_;exact kx (d));refine ns ?_;refine go 6 ?_;exact rR idh d
theorem g2X (W:World) (a:Ad) (s:St) (root:Int) (b:(h0E root 3 s).1≠ .big):a0G prog 144 #[ptr a.maps,.int .i64 root] (RS W a s) (Ran fT (RS W a) i0S (h0E root 3 s)):=by
 refine en func144 ntmps144 fun R w0=> ?_;refine go 3 ?_;refine a0U rfl Hb.o rfl (m1N W a s root 3 b) gSp (fun u t c=> ?_) (fun e t c=>by refine pn ?_;exact kx (c));refine ns ?_;refine go 1 ?_;exact fR c
abbrev p1E (b:Nat) (x:Bool):a0E:=pts b (.cells #[.bool x] 4 (0,0))
abbrev m2J (a:Ad) (b0 b1 b2:Nat) (id:Int) (only:Bool):a0E:=b0E [f0G b0 a,j0V b1 id,p1E b2 only]
theorem g2Y (W:World) (a:Ad) (b0 c d:Nat) (id:Int) (only:Bool) (bits:Nat):d1M W a (m2J a b0 c d id only) 143 [ptr b0,ptr c,ptr d] bits (w0L id only):=by
 intro s h f;have e0:w0L id only s=a0B (find id) (fun x=>a0B (h0E x.root 3) fun _=>ret {g0L with parent:=id,only:=only,size:=x.size,root:=x.root}) s:=rfl;refine ns ?_;refine en func143 ntmps143 fun R w0=> ?_;refine l0C (show Fnd _ (b0E [f0G b0 a,j0V c id,p1E d only]) _ from gFd) ?_;refine ns ?_;refine go 2 ?_;refine al fun i=> ?_;refine go 6 ?_;refine a0U rfl Hb.o rfl (v0X W a s id) gSp (fun x t b=> ?_) (fun e t b=>by refine pn ?_;(refine b0F (l0O (N:= [f0G b0 a,j0V c id,p1E d only]) gSp) ?_;exact b0W (e0.trans (a0F b)) idh gSp));refine ns ?_;have g:=b;refine al fun j=> ?_;refine go 4 ?_;refine tl 6 ?_;refine go 3 ?_;refine b0V (j0R Sc.o rfl gFd rfl) ?_;refine go 3 ?_;refine a0U rfl Hb.o rfl (g2X W a t x.root (c0I (p0H (m:=find id) (by rw[e0]at f;exact f) g))) gSp (fun v u b=> ?_) (fun e t b=>by refine pn ?_;(refine b0F (l0O (N:= [f0G b0 a,j0V c id,p1E d only]) gSp) ?_;exact b0W (e0.trans ((a0A g).trans (a0F b))) idh gSp));refine ns ?_;refine go 10 ?_;refine a0D (s0P (cs:=f0U {g0L with parent:=id,only:=only,size:=x.size,root:=x.root}) Pl.o rfl (by rfl)) ?_;refine go 3 ?_;refine b0U (l0O (N:= [f0G b0 a,j0V c id,p1E d only]) gSp) ?_;exact k0A (e0.trans ((a0A g).trans (by rw[a0A b];rfl))) idh (RV.agg Ag.o rfl (by simp[Value.cells,f0U]) (a0I (by simp[Value.cells,f0U])) RV.nil) rfl gSp
theorem m1W (W:World) (a:Ad) (s:St) (id:Int) (only:Bool) (i:s.vols.length≤1000) (f:(h0S id only s).1≠ .big):a0G prog 98 #[ptr a.core,.int .u32 id,.bool only] (RS W a s) (Ran fT (RS W a) z0M (h0S id only s)):=by
 have hi:=f1U W a s id;cases g:a0C id s.vols with
 |none=>
  rw[g]at hi;rw[show h0S id only s=(.ok (0,5),s) by unfold h0S;rw[g]];refine en func98 ntmps98 fun R w0=> ?_;refine go 2 ?_;refine bx fun b=> ?_;refine bx fun c=> ?_;refine bx fun d=> ?_;refine cg 9 (hi) ?_;refine go 3 ?_;refine al fun j=> ?_;refine go 18 ?_;exact rR idh rfl
 |some x=>
  rw[g]at hi;have e0:h0S id only s=k0K (w0L id only) s:=by unfold h0S;rw[g]
  rw[e0]at f ⊢;refine en func98 ntmps98 fun R w0=> ?_;refine go 2 ?_;refine bx fun b=> ?_;refine bx fun c=> ?_;refine bx fun d=> ?_;refine cg 9 (hi) ?_;refine go 3 ?_;refine al fun j=> ?_;refine go 17 ?_;refine e0X (l0O (N:= [f0G b a,j0V c id,p1E d only]) gSp) ?_;refine a0U rfl Hb.o rfl (m1V W a (m2J a b c d id only) 143 [ptr b,ptr c,ptr d] (w0L id only) s Hb.o i (g2Y W a b c d id only s.bits) f) gSp (fun p t h=> ?_) (fun e t h=>by refine pn ?_;exact kx (h));refine ns ?_;refine go 6 ?_;exact rR idh h
theorem g2Z (W:World) (a:Ad) (s:St) (id:Int) (d:s.vols.length≤1000) (b:(h0S id true s).1≠ .big):a0G prog 40 #[ptr a.core,.int .u32 id] (RS W a s) (Ran fT (RS W a) z0M (h0S id true s)):=by
 refine en func40 ntmps40 fun R w0=> ?_;refine go 10 ?_;refine a0U rfl Hb.o rfl (m1W W a s id true d b) gSp (fun p t c=> ?_) (fun e t c=>by refine pn ?_;exact kx (c));refine ns ?_;refine go 6 ?_;exact rR idh c
abbrev r2G (b:Nat) (x:B):a0E:=pts b (.cells #[b0C x] 9 (0,0))
theorem w2G (id:Int):PB (find id):=fun s=>by unfold find;split<;>rfl
theorem k1G (id:Int):PB (l0Z id):=b0L (w2G id) fun x=>i0F (h1E _) (c0V _)
theorem x1F: ∀k x a d,PB (j0S k x a d)
 |0,x,a,d=>c0V _
 |k+1,x,a,d=>by
  unfold j0S;exact i0F (c0V _) (b0L (v2U _ _) fun _=>b0L (c2V _ _ _) fun _=>x1F k _ _ _)
theorem w0V {x:Ent} {at_ n:Int} {s t:St} {u:Unit} (h:h0J x at_ n s=(.ok u,t)):t=s∧0≤at_∧0≤n∧at_+n≤x.size∧x.size≤5000:=by
 unfold h0J at h;split at h
 ·cases h
 ·unfold l0U at h;split at h
  ·cases h
  ·cases h;exact⟨rfl,by omega,by omega,by omega,by omega⟩
abbrev d2A (a:Ad) (b0 b1 b2 b3:Nat) (id at_:Int) (data:B):a0E:=b0E [f0G b0 a,j0V b1 id,r2G b2 data,f0W b3 at_]
theorem a2C (W:World) (E:i0L W) (a:Ad) (b0 l m n:Nat) (id at_:Int) (data:B) (bits:Nat) (q:bits≤256) (F:data.length≤100000):
 r0U W a (d2A a b0 l m n id at_ data) (fun _:Unit=>b0E []) 65 [ptr b0,ptr l,ptr m,ptr n] bits (i0X id at_ data):=by
 intro s G c;have e0:i0X id at_ data s=a0B (l0Z id) (fun x=>if data.length%64≠0 then n0L 4 else a0B (h0J x at_ (data.length/64:Nat)) fun _=>a0B (e0T x at_.toNat data) m0H) s:=rfl;refine ns ?_;refine en func65 ntmps65 fun R w0=> ?_;refine l0C (show Fnd _ (b0E [f0G b0 a,j0V l id,r2G m data,f0W n at_]) _ from gFd) ?_;refine ns ?_;refine go 4 ?_;refine a0U rfl Hb.o rfl (d1K W a s id) gSp (fun x t b=> ?_) (fun e t b=>by refine pn ?_;(refine b0F (fun w h=>c0C h) ?_;exact b0W (c0S (e0.trans (a0F b))) idh gSp));refine ns ?_;have g:=k1G id s;rw[b]at g;have g:t.bits=s.bits:=g;have i:=e0.trans (a0A b);clear b;refine al fun A=> ?_;refine go 8 ?_;rw[b0H];refine go 4 ?_;refine a0O rfl (fun d=> ?_) (fun d=> ?_)
 ·have f:data.length%64≠0:=by have h:=d;simp only[bne_iff_ne,ne_eq]at h;omega
  refine b0U (fun w h=>c0C h) ?_;refine go 1 ?_;refine c0A rfl Hb.o rfl (c0M 4) gSp ?_;refine ns ?_;refine pn ?_;exact b0W (c0S (i.trans (by rw[if_pos f];rfl))) idh gSp
 ·have f: ¬data.length%64≠0:=by have h:=d;simp only[bne_eq_false_iff_eq]at h;omega
  rw[if_neg f]at i;refine go 8 ?_;rw[b0H];refine go 1 ?_;rw[show((data.length:Nat):Int)/64=((data.length/64:Nat):Int) by omega];refine a0U rfl Hb.o rfl (a1F W a t x at_ ((data.length/64:Nat):Int) (by rw[i]at c;exact c0I c)) gSp (fun v z b=> ?_) (fun e t b=>by refine pn ?_;(refine b0F (fun w h=>c0C h) ?_;exact b0W (c0S (i.trans (a0F b))) idh gSp));refine ns ?_;refine go 1 ?_;obtain⟨D,J,K,L,M⟩:=w0V b;rw[D]at b ⊢;have j:=i.trans (a0A b);clear b;obtain⟨k,rfl⟩: ∃k:Nat,at_=k:=⟨at_.toNat,by omega⟩;rw[Int.toNat_natCast]at j;refine go 6 ?_;refine a0U rfl Hb.o rfl (m1R W E a t A x k data (by omega) (by omega) (by rw[j]at c;exact c0I c)) gSp (fun v ⟨u,H⟩ b=> ?_) (fun e t b=>by refine pn ?_;(obtain⟨t1,z⟩:=t;obtain⟨r,f⟩:=r0B b;obtain rfl:z=none:=congrArg Prod.snd r;have f:_=(Out.err e,t1):=f;simp only[RSo,List.cons_append,List.nil_append];have C:i0X id (k:Int) data s=(.err e,t1):=j.trans (a0F f);refine b0F (fun w h=>c0C h) ?_;exact b0W (c0S C) idh gSp));refine ns ?_;refine go 1 ?_;obtain⟨y,r,f⟩:=s0Z b;obtain rfl:H=some y:=congrArg Prod.snd r;have f:_=(Out.ok y,u):=f;simp only[RSo,List.cons_append,List.nil_append];have p:i0X id (k:Int) data s=m0H y u:=j.trans (a0A f);refine go 4 ?_;refine a0U rfl Hb.o rfl (v0Y W a u y (by rw[p]at c;exact c)) gSp (fun v I b=> ?_) (fun e t b=>by refine pn ?_;(refine b0F (fun w h=>c0C h) ?_;exact b0W (c0S (p.trans b)) idh gSp));refine ns ?_;refine go 1 ?_;refine b0F (fun w h=>c0C h) ?_;exact fR (s:=(I,.done ())) (m0W (p.trans b))
theorem a2D (W:World) (l:i0L W) (a:Ad) (s:St) (id at_:Int) (data:B) (b:s.bits≤256) (i:data.length≤100000) (k:s.vols.length≤1000) (c:(h0K id at_ data s).1≠ .big):
 a0G prog 21 #[ptr a.core,.int .u32 id,.int .i64 at_,b0C data] (RS W a s) (Ran fT (RS W a) a0H (h0K id at_ data s)):=by
 have e0:h0K id at_ data s=a0B (i0K (e0M 0 (i0X id at_ data))) (fun r=>ret r.1) s:=rfl;refine en func21 ntmps21 fun R w0=> ?_;refine go 2 ?_;refine bx fun d=> ?_;refine bx fun f=> ?_;refine bx fun g=> ?_;refine bx fun h=> ?_;refine go 7 ?_;refine e0X (l0O (N:= [f0G d a,j0V f id,r2G h data,f0W g at_]) gSp) ?_;refine a0U rfl Hb.o rfl (w0A W a (d2A a d f h g id at_ data) (fun _:Unit=>b0E []) 0 65 [ptr d,ptr f,ptr h,ptr g] (i0X id at_ data) s Hb.o (by omega) k (a2C W l a d f h g id at_ data s.bits b i) (by rw[e0]at c;exact c0I c)) gSp (fun e ⟨t,m⟩ j=> ?_) (fun e t j=>by refine pn ?_;(exact(m0T j).elim));refine ns ?_;refine go 3 ?_;exact rR idh (e0.trans (a0A (t0A j)))
end Go.Proofs.Q

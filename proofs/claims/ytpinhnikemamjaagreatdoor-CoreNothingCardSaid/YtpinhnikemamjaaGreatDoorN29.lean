/- Part of the proof; no statement of its own. -/
import Derived.Test.YtpinhnikemamjaaGreatDoorN18
import Derived.Test.YtpinhnikemamjaaGreatDoorN28
import Derived.Test.YtpinhnikemamjaaGreatDoorN16
import Derived.Test.YtpinhnikemamjaaGreatDoorN04
import Derived.Test.YtpinhnikemamjaaGreatDoorN06
import Derived.Test.YtpinhnikemamjaaGreatDoorProg
import Derived.KernelRfl
import Derived.Test.YtpinhnikemamjaaGreatDoorN08
import Derived.Test.YtpinhnikemamjaaGreatDoorN23
import Derived.Test.YtpinhnikemamjaaGreatDoorN27
set_option linter.all false
set_option maxRecDepth 4000
set_option maxHeartbeats 4000000
attribute [local irreducible] Go.Sl.a0O Go.Sl.OW Go.Sl.CW Go.Sl.OS Go.Sl.OM Go.Sl.OMf Go.Sl.KM
namespace Go.Proofs.Q
open Go.Sl Go.Sb Tryz
theorem w2L (g n cap a b p:Nat) (xs:List Int) (hl:xs.length=n) (hn:n≤1000) (hab:a<b) (hb:b≤n) (hp:a≤p∧p<b) (hnd:xs.Nodup):
 a0F prog 218 #[slU g n cap,.int .i64 a,.int .i64 b,.int .i64 p] [f0K g n cap xs] (b0N (fun y:Nat×Bool×List Int=>SP a b xs y.2.2∧Mid a b y.1 y.2.2) (fun y=> .tuple #[.int .i64 y.1,.bool y.2.1]) (fun y=> [f0K g n cap y.2.2])):=by
 refine en func218 ntmps218 fun R w0=> ?_;refine go 6 ?_;refine q0V ([(0,slU g n cap),(1,.int .i64 a),(2,.int .i64 b)]) ([f0K g n cap (swp xs a p),R]) ?_ ?_
 ·refine mx (.r 0 7 (.r 8 3 (.two 7 (.hard 11 (.soft 12 (.hard 13 (.soft 14 (.hard 15 .done))))) 11 (.hard 7 (.soft 12 (.hard 13 (.soft 14 (.hard 15 .done)))))))) [] ?_;refine go 10 ?_;refine q0A rfl rfl ?_ ?_
  ·refine a0D (a0U Sc.o rfl gFd (c0U rfl (by omega))) ?_;refine go 3 ?_;refine a0D (a0U Sc.o rfl gFd (c0U rfl (by omega))) ?_;refine go 4 ?_;refine c0D (xs':=us (xs.set a (xat xs p))) Sz.o rfl rfl rfl gFd (by rw[f0C];omega) (f0B rfl) ?_;refine go 4 ?_;refine c0D (xs':=us (swp xs a p)) Sz.o rfl rfl rfl gFd (by rw[f0C,List.length_set];omega) (f0B rfl) ?_;refine go 3 ?_;exact h0C idh gSu gSp
  ·refine a0D (a0U Sc.o rfl gFd (c0U rfl (by omega))) ?_;refine go 3 ?_;refine a0D (a0U Sc.o rfl gFd (c0U rfl (by omega))) ?_;refine go 4 ?_;refine c0D (xs':=us (xs.set a (xat xs p))) Sz.o rfl rfl rfl gFd (by rw[f0C];omega) (f0B rfl) ?_;refine go 4 ?_;refine c0D (xs':=us (swp xs a p)) Sz.o rfl rfl rfl gFd (by rw[f0C,List.length_set];omega) (f0B rfl) ?_;refine go 3 ?_;exact h0C idh gSu gSp
 refine go 1 ?_;obtain⟨ys,hys⟩: ∃ys,swp xs a p=ys:=⟨_,rfl⟩;rw[hys];have hsp:SP a b xs ys:=by rw[←hys];exact SP.swap (by omega) (by omega) (by omega)
 clear hys;have hyl:=hsp.len;have hny:=hsp.nodup hnd;refine go 8 ?_;rw[show(a:Int)+1=((a+1:Nat):Int) by omega,show(b:Int)-1=((b-1:Nat):Int) by omega];refine go 1 ?_;refine i0P (X:= {i:Nat // Par a b i (b-1) ys∧(i≤b-1→xat ys a<xat ys i)}) (fun y=> [(0,slU g n cap),(1,.int .i64 a),(10,.int .i64 y.1),(11,.int .i64 ((b-1:Nat):Int))]) (fun y=> [f0K g n cap ys,R]) ?_ ?_
 ·refine go 1 ?_;refine a0V (X:= {i:Nat // Par a b i (b-1) ys}) (fun y=> [(0,slU g n cap),(1,.int .i64 a),(10,.int .i64 y.1),(11,.int .i64 ((b-1:Nat):Int))]) (fun y=> [f0K g n cap ys,R]) (fun y=>b-y.1) ⟨a+1,Par.new hab⟩ gSu gSp ?_;rintro⟨i,hpr⟩ m0 hm0
  try simp only at hm0
  try dsimp only
  have hle:=hpr.le;refine go 2 ?_;by_cases hij:i≤b-1
  ·refine tl 12 ?_;refine go 7 ?_;refine m0W (wg rfl rfl rfl (wTT gT)) (a0U Sc.o rfl gFd (c0U rfl (by omega))) ?_;refine go 3 ?_;refine m0W (wg rfl rfl rfl (wTT gT)) (a0U Sc.o rfl gFd (c0U rfl (by omega))) ?_;refine go 2 ?_;refine b0U rfl Hb.o rfl (u0Z _ _) gSp ?_;refine ns ?_;refine go 3 ?_;refine a0P rfl (fun hb43=> ?_) (fun hb43=> ?_)
   ·refine go 8 ?_;rw[show(i:Int)+1=((i+1:Nat):Int) by omega];exact rd idh (⟨i+1,hpr.inc hij (of_decide_eq_true hb43)⟩)
   ·refine go 1 ?_;exact me idh (⟨i,hpr,fun h=>by have h1:=of_decide_eq_false hb43;have h2:=b1L hny (show i<ys.length by omega) (show a<ys.length by omega) (by omega);omega⟩)
  ·refine tl 12 ?_;refine go 19 ?_;exact me idh (⟨i,hpr,fun h=>(hij h).elim⟩)
 rintro⟨i,hpr,hup⟩;dsimp only at hpr hup ⊢;refine i0P (X:= {j:Nat // Par a b i j ys∧(i≤j→xat ys a<xat ys i∧xat ys j<xat ys a)}) (fun y=> [(0,slU g n cap),(1,.int .i64 a),(10,.int .i64 i),(11,.int .i64 y.1)]) (fun y=> [f0K g n cap ys,R]) ?_ ?_
 ·refine go 1 ?_;refine a0V (X:= {j:Nat // Par a b i j ys∧j≤b-1}) (fun y=> [(0,slU g n cap),(1,.int .i64 a),(10,.int .i64 i),(11,.int .i64 y.1)]) (fun y=> [f0K g n cap ys,R]) (fun y=>y.1) ⟨b-1,hpr,Nat.le_refl _⟩ gSu gSp ?_;rintro⟨j,hpj,hjb⟩ m2 hm2
  try simp only at hm2
  try dsimp only
  have hle:=hpj.le;refine go 2 ?_;by_cases hij:i≤j
  ·refine tl 12 ?_;refine go 7 ?_;refine m0W (wg rfl rfl rfl (wTT gT)) (a0U Sc.o rfl gFd (c0U rfl (by omega))) ?_;refine go 3 ?_;refine m0W (wg rfl rfl rfl (wTT gT)) (a0U Sc.o rfl gFd (c0U rfl (by omega))) ?_;refine go 2 ?_;refine b0U rfl Hb.o rfl (u0Z _ _) gSp ?_;refine ns ?_;refine go 4 ?_;refine a0P rfl (fun hb60=> ?_) (fun hb60=> ?_)
   ·have hgt2:xat ys a<xat ys j:=by
     have h1: ¬xat ys j<xat ys a:=by simpa using hb60
     have h2:=b1L hny (show j<ys.length by omega) (show a<ys.length by omega) (by omega);omega
    refine go 8 ?_;rw[show(j:Int)-1=((j-1:Nat):Int) by omega];exact rd idh (⟨j-1,hpj.dec hij hgt2,by omega⟩)
   ·refine go 1 ?_;exact me idh (⟨j,hpj,fun h=>⟨hup (by omega),by simpa using hb60⟩⟩)
  ·refine tl 12 ?_;refine go 20 ?_;exact me idh (⟨j,hpj,fun h=>(hij h).elim⟩)
 rintro⟨j,hpj,hst⟩;dsimp only at hpj hst ⊢;have hle:=hpj.le;refine go 8 ?_;refine a0P rfl (fun hb65=> ?_) (fun hb65=> ?_)
 ·have hgt:j<i:=by have:=of_decide_eq_true hb65;omega
  refine q0V ([(0,slU g n cap),(1,.int .i64 a),(11,.int .i64 j)]) ([f0K g n cap (swp ys j a),R]) ?_ ?_
  ·refine mx (.r 0 7 (.r 8 3 (.two 7 (.hard 11 (.soft 12 (.hard 13 (.soft 14 (.hard 15 .done))))) 11 (.hard 7 (.soft 12 (.hard 13 (.soft 14 (.hard 15 .done)))))))) [] ?_;refine go 10 ?_;refine q0A rfl rfl ?_ ?_
   ·refine a0D (a0U Sc.o rfl gFd (c0U rfl (by omega))) ?_;refine go 3 ?_;refine a0D (a0U Sc.o rfl gFd (c0U rfl (by omega))) ?_;refine go 4 ?_;refine c0D (xs':=us (ys.set j (xat ys a))) Sz.o rfl rfl rfl gFd (by rw[f0C];omega) (f0B rfl) ?_;refine go 4 ?_;refine c0D (xs':=us (swp ys j a)) Sz.o rfl rfl rfl gFd (by rw[f0C,List.length_set];omega) (f0B rfl) ?_;refine go 3 ?_;exact h0C idh gSu gSp
   ·refine a0D (a0U Sc.o rfl gFd (c0U rfl (by omega))) ?_;refine go 3 ?_;refine a0D (a0U Sc.o rfl gFd (c0U rfl (by omega))) ?_;refine go 4 ?_;refine c0D (xs':=us (ys.set j (xat ys a))) Sz.o rfl rfl rfl gFd (by rw[f0C];omega) (f0B rfl) ?_;refine go 4 ?_;refine c0D (xs':=us (swp ys j a)) Sz.o rfl rfl rfl gFd (by rw[f0C,List.length_set];omega) (f0B rfl) ?_;refine go 3 ?_;exact h0C idh gSu gSp
  refine go 7 ?_;exact rE idh (j,true,swp ys j a) ⟨hsp.trans (SP.swap (by omega) (by omega) (by omega)),hpj.mid (by omega) hgt⟩
 ·have hle2:i≤j:=by have:=of_decide_eq_false hb65;omega
  obtain⟨hs1,hs2⟩:=hst hle2;have hlt:i<j:=by
   rcases Nat.lt_or_eq_of_le hle2 with h|h
   ·exact h
   ·rw[←h]at hs2;omega
  refine go 2 ?_;refine q0V ([(0,slU g n cap),(1,.int .i64 a),(10,.int .i64 i),(11,.int .i64 j)]) ([f0K g n cap (swp ys i j),R]) ?_ ?_
  ·refine mx (.r 0 7 (.r 8 3 (.two 7 (.hard 11 (.soft 12 (.hard 13 (.soft 14 (.hard 15 .done))))) 11 (.hard 7 (.soft 12 (.hard 13 (.soft 14 (.hard 15 .done)))))))) [] ?_;refine go 10 ?_;refine q0A rfl rfl ?_ ?_
   ·refine a0D (a0U Sc.o rfl gFd (c0U rfl (by omega))) ?_;refine go 3 ?_;refine a0D (a0U Sc.o rfl gFd (c0U rfl (by omega))) ?_;refine go 4 ?_;refine c0D (xs':=us (ys.set i (xat ys j))) Sz.o rfl rfl rfl gFd (by rw[f0C];omega) (f0B rfl) ?_;refine go 4 ?_;refine c0D (xs':=us (swp ys i j)) Sz.o rfl rfl rfl gFd (by rw[f0C,List.length_set];omega) (f0B rfl) ?_;refine go 3 ?_;exact h0C idh gSu gSp
   ·refine a0D (a0U Sc.o rfl gFd (c0U rfl (by omega))) ?_;refine go 3 ?_;refine a0D (a0U Sc.o rfl gFd (c0U rfl (by omega))) ?_;refine go 4 ?_;refine c0D (xs':=us (ys.set i (xat ys j))) Sz.o rfl rfl rfl gFd (by rw[f0C];omega) (f0B rfl) ?_;refine go 4 ?_;refine c0D (xs':=us (swp ys i j)) Sz.o rfl rfl rfl gFd (by rw[f0C,List.length_set];omega) (f0B rfl) ?_;refine go 3 ?_;exact h0C idh gSu gSp
  refine go 6 ?_;rw[show(i:Int)+1=((i+1:Nat):Int) by omega];refine go 7 ?_;rw[show(j:Int)-1=((j-1:Nat):Int) by omega];refine go 3 ?_;refine a0V (X:= {y:Nat×Nat×List Int // SP a b xs y.2.2∧Par a b y.1 y.2.1 y.2.2}) (fun y=> [(0,slU g n cap),(1,.int .i64 a),(10,.int .i64 y.1.1),(11,.int .i64 y.1.2.1)]) (fun y=> [f0K g n cap y.1.2.2,R]) (fun y=>y.1.2.1+1-y.1.1) ⟨(i+1,j-1,swp ys i j),hsp.trans (SP.swap (by omega) (by omega) (by omega)),hpj.swap (by omega) hlt hs1 hs2⟩ gSu gSp ?_;rintro⟨⟨i4,j4,zs⟩,hz,hp4⟩ m4 hm4
  try simp only at hm4
  try dsimp only
  dsimp only at hz hp4;have hzl:=hz.len;have hnz:=hz.nodup hnd;have hle4:=hp4.le;refine go 1 ?_;refine i0P (X:= {i:Nat // Par a b i j4 zs∧i4≤i∧(i≤j4→xat zs a<xat zs i)}) (fun y=> [(0,slU g n cap),(1,.int .i64 a),(10,.int .i64 y.1),(11,.int .i64 j4)]) (fun y=> [f0K g n cap zs,R]) ?_ ?_
  ·refine go 1 ?_;refine a0V (X:= {i:Nat // Par a b i j4 zs∧i4≤i}) (fun y=> [(0,slU g n cap),(1,.int .i64 a),(10,.int .i64 y.1),(11,.int .i64 j4)]) (fun y=> [f0K g n cap zs,R]) (fun y=>b-y.1) ⟨i4,hp4,Nat.le_refl _⟩ gSu gSp ?_;rintro⟨i6,hp6,h46⟩ m6 hm6
   try simp only at hm6
   try dsimp only
   have hle6:=hp6.le;refine go 2 ?_;by_cases hij:i6≤j4
   ·refine tl 12 ?_;refine go 7 ?_;refine m0W (wg rfl rfl rfl (wTT gT)) (a0U Sc.o rfl gFd (c0U rfl (by omega))) ?_;refine go 3 ?_;refine m0W (wg rfl rfl rfl (wTT gT)) (a0U Sc.o rfl gFd (c0U rfl (by omega))) ?_;refine go 2 ?_;refine b0U rfl Hb.o rfl (u0Z _ _) gSp ?_;refine ns ?_;refine go 3 ?_;refine a0P rfl (fun hb112=> ?_) (fun hb112=> ?_)
    ·refine go 8 ?_;rw[show(i6:Int)+1=((i6+1:Nat):Int) by omega];exact rd idh (⟨i6+1,hp6.inc hij (of_decide_eq_true hb112),by omega⟩)
    ·refine go 1 ?_;exact me idh (⟨i6,hp6,h46,fun h=>by have h1:=of_decide_eq_false hb112;have h2:=b1L hnz (show i6<zs.length by omega) (show a<zs.length by omega) (by omega);omega⟩)
   ·refine tl 12 ?_;refine go 19 ?_;exact me idh (⟨i6,hp6,h46,fun h=>(hij h).elim⟩)
  rintro⟨i6,hp6,h46,hup6⟩;dsimp only at hp6 h46 hup6 ⊢;refine i0P (X:= {j:Nat // Par a b i6 j zs∧j≤j4∧(i6≤j→xat zs a<xat zs i6∧xat zs j<xat zs a)}) (fun y=> [(0,slU g n cap),(1,.int .i64 a),(10,.int .i64 i6),(11,.int .i64 y.1)]) (fun y=> [f0K g n cap zs,R]) ?_ ?_
  ·refine go 1 ?_;refine a0V (X:= {j:Nat // Par a b i6 j zs∧j≤j4}) (fun y=> [(0,slU g n cap),(1,.int .i64 a),(10,.int .i64 i6),(11,.int .i64 y.1)]) (fun y=> [f0K g n cap zs,R]) (fun y=>y.1) ⟨j4,hp6,Nat.le_refl _⟩ gSu gSp ?_;rintro⟨j8,hp8,h48⟩ m8 hm8
   try simp only at hm8
   try dsimp only
   have hle8:=hp8.le;refine go 2 ?_;by_cases hij:i6≤j8
   ·refine tl 12 ?_;refine go 7 ?_;refine m0W (wg rfl rfl rfl (wTT gT)) (a0U Sc.o rfl gFd (c0U rfl (by omega))) ?_;refine go 3 ?_;refine m0W (wg rfl rfl rfl (wTT gT)) (a0U Sc.o rfl gFd (c0U rfl (by omega))) ?_;refine go 2 ?_;refine b0U rfl Hb.o rfl (u0Z _ _) gSp ?_;refine ns ?_;refine go 4 ?_;refine a0P rfl (fun hb129=> ?_) (fun hb129=> ?_)
    ·have hgt3:xat zs a<xat zs j8:=by
      have h1: ¬xat zs j8<xat zs a:=by simpa using hb129
      have h2:=b1L hnz (show j8<zs.length by omega) (show a<zs.length by omega) (by omega);omega
     refine go 8 ?_;rw[show(j8:Int)-1=((j8-1:Nat):Int) by omega];exact rd idh (⟨j8-1,hp8.dec hij hgt3,by omega⟩)
    ·refine go 1 ?_;exact me idh (⟨j8,hp8,h48,fun h=>⟨hup6 (by omega),by simpa using hb129⟩⟩)
   ·refine tl 12 ?_;refine go 20 ?_;exact me idh (⟨j8,hp8,h48,fun h=>(hij h).elim⟩)
  rintro⟨j8,hp8,h48,hst8⟩;dsimp only at hp8 h48 hst8 ⊢;have hle8:=hp8.le;refine go 8 ?_;refine a0P rfl (fun hb134=> ?_) (fun hb134=> ?_)
  ·have hgt8:j8<i6:=by have:=of_decide_eq_true hb134;omega
   refine go 2 ?_;refine q0V ([(0,slU g n cap),(1,.int .i64 a),(11,.int .i64 j8)]) ([f0K g n cap (swp zs j8 a),R]) ?_ ?_
   ·refine mx (.r 0 7 (.r 8 3 (.two 7 (.hard 11 (.soft 12 (.hard 13 (.soft 14 (.hard 15 .done))))) 11 (.hard 7 (.soft 12 (.hard 13 (.soft 14 (.hard 15 .done)))))))) [] ?_;refine go 10 ?_;refine q0A rfl rfl ?_ ?_
    ·refine a0D (a0U Sc.o rfl gFd (c0U rfl (by omega))) ?_;refine go 3 ?_;refine a0D (a0U Sc.o rfl gFd (c0U rfl (by omega))) ?_;refine go 4 ?_;refine c0D (xs':=us (zs.set j8 (xat zs a))) Sz.o rfl rfl rfl gFd (by rw[f0C];omega) (f0B rfl) ?_;refine go 4 ?_;refine c0D (xs':=us (swp zs j8 a)) Sz.o rfl rfl rfl gFd (by rw[f0C,List.length_set];omega) (f0B rfl) ?_;refine go 3 ?_;exact h0C idh gSu gSp
    ·refine a0D (a0U Sc.o rfl gFd (c0U rfl (by omega))) ?_;refine go 3 ?_;refine a0D (a0U Sc.o rfl gFd (c0U rfl (by omega))) ?_;refine go 4 ?_;refine c0D (xs':=us (zs.set j8 (xat zs a))) Sz.o rfl rfl rfl gFd (by rw[f0C];omega) (f0B rfl) ?_;refine go 4 ?_;refine c0D (xs':=us (swp zs j8 a)) Sz.o rfl rfl rfl gFd (by rw[f0C,List.length_set];omega) (f0B rfl) ?_;refine go 3 ?_;exact h0C idh gSu gSp
   refine go 7 ?_;exact rE idh (j8,false,swp zs j8 a) ⟨hz.trans (SP.swap (by omega) (by omega) (by omega)),hp8.mid (by omega) hgt8⟩
  ·have hle9:i6≤j8:=by have:=of_decide_eq_false hb134;omega
   obtain⟨hs3,hs4⟩:=hst8 hle9;have hlt8:i6<j8:=by
    rcases Nat.lt_or_eq_of_le hle9 with h|h
    ·exact h
    ·rw[←h]at hs4;omega
   refine go 2 ?_;refine q0V ([(0,slU g n cap),(1,.int .i64 a),(10,.int .i64 i6),(11,.int .i64 j8)]) ([f0K g n cap (swp zs i6 j8),R]) ?_ ?_
   ·refine mx (.r 0 7 (.r 8 3 (.two 7 (.hard 11 (.soft 12 (.hard 13 (.soft 14 (.hard 15 .done))))) 11 (.hard 7 (.soft 12 (.hard 13 (.soft 14 (.hard 15 .done)))))))) [] ?_;refine go 10 ?_;refine q0A rfl rfl ?_ ?_
    ·refine a0D (a0U Sc.o rfl gFd (c0U rfl (by omega))) ?_;refine go 3 ?_;refine a0D (a0U Sc.o rfl gFd (c0U rfl (by omega))) ?_;refine go 4 ?_;refine c0D (xs':=us (zs.set i6 (xat zs j8))) Sz.o rfl rfl rfl gFd (by rw[f0C];omega) (f0B rfl) ?_;refine go 4 ?_;refine c0D (xs':=us (swp zs i6 j8)) Sz.o rfl rfl rfl gFd (by rw[f0C,List.length_set];omega) (f0B rfl) ?_;refine go 3 ?_;exact h0C idh gSu gSp
    ·refine a0D (a0U Sc.o rfl gFd (c0U rfl (by omega))) ?_;refine go 3 ?_;refine a0D (a0U Sc.o rfl gFd (c0U rfl (by omega))) ?_;refine go 4 ?_;refine c0D (xs':=us (zs.set i6 (xat zs j8))) Sz.o rfl rfl rfl gFd (by rw[f0C];omega) (f0B rfl) ?_;refine go 4 ?_;refine c0D (xs':=us (swp zs i6 j8)) Sz.o rfl rfl rfl gFd (by rw[f0C,List.length_set];omega) (f0B rfl) ?_;refine go 3 ?_;exact h0C idh gSu gSp
   refine go 6 ?_;rw[show(i6:Int)+1=((i6+1:Nat):Int) by omega];refine go 6 ?_;rw[show(j8:Int)-1=((j8-1:Nat):Int) by omega];exact rd idh (⟨(i6+1,j8-1,swp zs i6 j8),hz.trans (SP.swap (by omega) (by omega) (by omega)),hp8.swap (by omega) hlt8 hs3 hs4⟩)
def q0P (x:Nat):Nat:= [0,1,2,2,3,3,3,3,4,4,4,4,4,4,4,4,5].getD x 0
theorem n1R {x:Nat} (h:x≤16):q0P x≤5:=by revert x;decide
theorem v1J {x:Nat} (h:13≤x∧x≤16):(2^q0P x=16∧x<16∧q0P x=4)∨(2^q0P x=32∧x=16∧q0P x=5):=by
 have:x=13∨x=14∨x=15∨x=16:=by omega
 rcases this with rfl|rfl|rfl|rfl<;>decide
theorem le16 {x:Nat} (h:x≤16):x=0∨x=1∨x=2∨x=3∨x=4∨x=5∨x=6∨x=7∨x=8∨x=9∨x=10∨x=11∨x=12∨x=13∨x=14∨x=15∨x=16:=by omega
theorem u2E (x:Nat) (h:x≤16):a0F prog 220 #[.int .u64 x] [] (a0T (.int .i64 (q0P x)) []):=by
 have hb:=n1R h;refine en func220 ntmps220 fun R w0=> ?_;refine go 40 ?_;rw[show IntKind.u8.wrap (x:Int)=(x:Int)from e0L .u8 _ (by omega) (by show(x:Int)<128;omega)];refine a0D (c1P (u:=UInt8.ofNat (q0P x)) Tst.o rfl rfl (by omega) (by rw[Int.toNat_natCast];rcases le16 h with rfl|rfl|rfl|rfl|rfl|rfl|rfl|rfl|rfl|rfl|rfl|rfl|rfl|rfl|rfl|rfl|rfl<;>rfl)) ?_;refine go 1 ?_;rw[show IntKind.i64.wrap ((UInt8.ofNat (q0P x)).toNat:Int)=(q0P x:Int) by rw[UInt8.toNat_ofNat',Nat.mod_eq_of_lt (by omega)];exact e0L .i64 _ (by omega) (by show(q0P x:Int)<9223372036854775808;omega)];refine go 1 ?_;rw[Int.zero_add];refine go 3 ?_;exact rG
theorem q1T (x:Nat) (h:x≤16):a0F prog 180 #[.int .u64 x] [] (a0T (.int .i64 (q0P x)) []):=by
 refine en func180 ntmps180 fun R w0=> ?_;refine cg 12 (u2E x h) ?_;refine go 3 ?_;exact rG
theorem w2M (x:Nat) (h:13≤x∧x≤16):a0F prog 263 #[.int .i64 x] [] (a0T (.int .u64 ((2^q0P x:Nat):Int)) []):=by
 have hb:=n1R h.2;have hp:=v1J h;refine en func263 ntmps263 fun R w0=> ?_;refine go 9 ?_;rw[show IntKind.u64.wrap (x:Int)=(x:Int)from e0L .u64 _ (by omega) (by show(x:Int)<9223372036854775808;omega)];refine cg 0 (q1T x (by omega)) ?_;refine a0D (e1X rfl rfl (by first|decide| (simp only[IntKind.bits];omega))) ?_;rw[show IntKind.u64.wrap (1*2^((q0P x:Int)).toNat)=((2^q0P x:Nat):Int) by rw[Int.toNat_natCast,Int.one_mul];refine(e0L .u64 _ ?_ ?_).trans ?_<;>rcases hp with ⟨h1,_,h3⟩| ⟨h1,_,h3⟩<;>rw[h3]<;>decide];refine go 3 ?_;exact rG
theorem w2N (b:Nat) (x:Int):a0F prog 264 #[pU b] [pts b (.cells #[.int .u64 x] 320 (0,0))] (b0N (fun _:Int=>True) (fun y=> .int .u64 y) (fun y=> [pts b (.cells #[.int .u64 y] 320 (0,0))])):=by
 refine en func264 ntmps264 fun R w0=> ?_;refine go 6 ?_;refine tl 7 ?_;refine go 6 ?_;refine b0X (e1X rfl rfl (by first|decide| (simp only[IntKind.bits];omega))) ?_;refine go 1 ?_;refine a0D (v0J rfl rfl) ?_;refine go 5 ?_;refine tl 7 ?_;refine go 6 ?_;refine b0X (s0N rfl rfl (by first|decide| (simp only[IntKind.bits];omega))) ?_;refine go 1 ?_;refine a0D (v0J rfl rfl) ?_;refine go 5 ?_;refine tl 7 ?_;refine go 6 ?_;refine b0X (e1X rfl rfl (by first|decide| (simp only[IntKind.bits];omega))) ?_;refine go 1 ?_;refine a0D (v0J rfl rfl) ?_;refine go 12 ?_;exact rE idh _ trivial
abbrev cX (b:Nat) (x:Int):a0C:=pts b (.cells #[.int .u64 x] 320 (0,0))
theorem w2O {m:Nat} (h:m=16∨m=32) (y:Int):bits .and .u64 y (IntKind.u64.wrap ((m:Int)-1))=y% (m:Int):=by
 rcases h with rfl|rfl
 ·exact g2G .u64 y
 ·exact r1B .u64 y
theorem u2F (g n cap a b:Nat) (xs:List Int) (hl:xs.length=n) (hn:n≤16) (hab:a+13≤b) (hb:b≤n):
 a0F prog 212 #[slU g n cap,.int .i64 a,.int .i64 b] [f0K g n cap xs] (b0N (fun ys:List Int=>SP a b xs ys) (fun _=> .tuple #[]) (fun ys=> [f0K g n cap ys])):=by
 obtain⟨l,hl2⟩: ∃l:Nat,b=a+l:=⟨b-a,by omega⟩;subst hl2;have hp2:=v1J (x:=l) (by omega);obtain⟨m,hm⟩: ∃m:Nat,2^q0P l=m:=⟨_,rfl⟩;rw[hm]at hp2;have hp:=w2M l (by omega);rw[hm]at hp;refine en func212 ntmps212 fun R w0=> ?_;refine go 7 ?_;rw[show((a+l:Nat):Int)- (a:Int)=(l:Int) by omega];refine go 12 ?_;refine al fun b7=> ?_;refine cg 6 (hp) ?_;refine go 13 ?_;rw[show(a:Int)+(l:Int)/4*2-1=((a+l/4*2-1:Nat):Int) by omega];refine go 2 ?_;generalize IntKind.u64.wrap (l:Int)=x0;refine a0V (X:= {y:Nat×Int×List Int // a+l/4*2-1≤y.1∧y.1≤a+l/4*2+2∧SP a (a+l) xs y.2.2}) (fun y=> [(0,slU g n cap),(1,.int .i64 a),(6,.int .i64 l),(7,pU b7),(8,.int .u64 m),(9,.int .i64 y.1.1)]) (fun y=> [f0K g n cap y.1.2.2,cX b7 y.1.2.1,R]) (fun y=>a+l/4*2+2-y.1.1) ⟨(a+l/4*2-1,x0,xs),by omega,by(show a+l/4*2-1≤_);omega,SP.refl _ _ _⟩ gSu gSp ?_;rintro⟨⟨i,x,ys⟩,hi1,hi2,hsp⟩ m0 hm0
 try simp only at hm0
 try dsimp only
 dsimp only at hi1 hi2 hsp;have hyl:=hsp.len;refine go 13 ?_;refine a0P rfl (fun hb33=> ?_) (fun hb33=> ?_)
 ·have hi3:i≤a+l/4*2+1:=by have:=of_decide_eq_true hb33;omega
  refine ce 6 (w2N b7 x) ?_;rintro y _;refine ns ?_;refine go 1 ?_;refine a0D (j1I rfl rfl) ?_;refine a0D (n0Y rfl rfl) ?_;rw[w2O (by omega)];have hq1:=Int.emod_nonneg y (show(m:Int)≠0 by omega);have hq2:=Int.emod_lt_of_pos y (show 0<(m:Int) by omega);obtain⟨q,hq⟩: ∃q:Nat,y% (m:Int)=q:=⟨(y% (m:Int)).toNat,by omega⟩;have hqm:q<m:=by omega
  rw[hq];refine go 1 ?_;rw[show IntKind.i64.wrap (q:Int)=(q:Int)from e0L .i64 _ (by omega) (by show(q:Int)<9223372036854775808;omega)];refine go 3 ?_;refine i0P (X:= {r:Nat // r<l}) (fun r=> [(0,slU g n cap),(1,.int .i64 a),(6,.int .i64 l),(7,pU b7),(8,.int .u64 m),(9,.int .i64 i),(10,.int .i64 r.1)]) (fun r=> [f0K g n cap ys,cX b7 y,R]) ?_ ?_
  ·refine go 7 ?_;refine a0P rfl (fun hb43=> ?_) (fun hb43=> ?_)
   ·refine go 6 ?_;rw[show(q:Int)- (l:Int)=((q-l:Nat):Int) by have:=of_decide_eq_true hb43;omega];exact me idh (⟨q-l,by have:=of_decide_eq_true hb43;omega⟩)
   ·refine go 1 ?_;exact me idh (⟨q,by have:=of_decide_eq_false hb43;omega⟩)
  rintro⟨r,hr⟩;dsimp only;refine mx (.r 0 11 (.r 12 3 (.two 11 (.hard 15 (.soft 16 (.hard 17 (.soft 18 (.hard 19 .done))))) 15 (.hard 11 (.soft 16 (.hard 17 (.soft 18 (.hard 19 .done)))))))) [] ?_;refine go 14 ?_;refine q0A rfl rfl ?_ ?_
  ·refine a0D (a0U Sc.o rfl gFd (c0U (i:=a+r) (by omega) (by omega))) ?_;refine go 3 ?_;refine a0D (a0U Sc.o rfl gFd (c0U rfl (by omega))) ?_;refine go 4 ?_;refine c0D (xs':=us (ys.set i (xat ys (a+r)))) Sz.o rfl rfl rfl gFd (by rw[f0C];omega) (f0B rfl) ?_;refine go 4 ?_;refine c0D (xs':=us (swp ys i (a+r))) Sz.o rfl rfl rfl gFd (by rw[f0C,List.length_set];omega) (f0B (i:=a+r) (by omega)) ?_;refine go 9 ?_;rw[show(i:Int)+1=((i+1:Nat):Int) by omega];exact rd idh (⟨(i+1,y,swp ys i (a+r)),by(show _≤i+1);omega,by(show i+1≤_);omega,hsp.trans (SP.swap (by omega) (by omega) (by omega))⟩)
  ·refine a0D (a0U Sc.o rfl gFd (c0U rfl (by omega))) ?_;refine go 3 ?_;refine a0D (a0U Sc.o rfl gFd (c0U (i:=a+r) (by omega) (by omega))) ?_;refine go 4 ?_;refine c0D (xs':=us (ys.set i (xat ys (a+r)))) Sz.o rfl rfl rfl gFd (by rw[f0C];omega) (f0B rfl) ?_;refine go 4 ?_;refine c0D (xs':=us (swp ys i (a+r))) Sz.o rfl rfl rfl gFd (by rw[f0C,List.length_set];omega) (f0B (i:=a+r) (by omega)) ?_;refine go 9 ?_;rw[show(i:Int)+1=((i+1:Nat):Int) by omega];exact rd idh (⟨(i+1,y,swp ys i (a+r)),by(show _≤i+1);omega,by(show i+1≤_);omega,hsp.trans (SP.swap (by omega) (by omega) (by omega))⟩)
 ·refine go 1 ?_;exact fE ys hsp
theorem j2W (g n cap a b:Nat) (xs:List Int) (hl:xs.length=n) (hn:n≤16) (hab:a+13≤b) (hb:b≤n) (hnd:xs.Nodup):
 a0F prog 215 #[slU g n cap,.int .i64 a,.int .i64 b] [f0K g n cap xs] (b0N (fun y:Bool=>y=true→Srt a b xs) (fun y=> .bool y) (fun _=> [f0K g n cap xs])):=by
 refine en func215 ntmps215 fun R w0=> ?_;refine go 11 ?_;rw[show(a:Int)+1=((a+1:Nat):Int) by omega];refine go 8 ?_;refine a0V (X:=Unit) (fun _=> [(0,slU g n cap),(1,.int .i64 a),(2,.int .i64 b),(7,.int .i64 ((a+1:Nat):Int)),(8,.int .i64 0)]) (fun _=> [f0K g n cap xs,R]) (fun _=>0) () gSu gSp ?_;rintro⟨⟩ m0 hm0
 try simp only at hm0
 try dsimp only
 skip;refine go 12 ?_;refine i0P (X:= {i:Nat // a+1≤i∧i≤b∧Srt a i xs}) (fun y=> [(0,slU g n cap),(1,.int .i64 a),(2,.int .i64 b),(7,.int .i64 y.1)]) (fun _=> [f0K g n cap xs,R]) ?_ ?_
 ·refine go 1 ?_;refine a0V (X:= {i:Nat // a+1≤i∧i≤b∧Srt a i xs}) (fun y=> [(0,slU g n cap),(1,.int .i64 a),(2,.int .i64 b),(7,.int .i64 y.1)]) (fun _=> [f0K g n cap xs,R]) (fun y=>b-y.1) ⟨a+1,Nat.le_refl _,by omega,fun p q _ _ _=>by omega⟩ gSu gSp ?_;rintro⟨i,hi1,hi2,hs⟩ m2 hm2
  try simp only at hm2
  try dsimp only
  skip;refine go 2 ?_;by_cases hib:i<b
  ·refine tl 13 ?_;refine go 7 ?_;refine m0W (wg rfl rfl rfl (wTT gT)) (a0U Sc.o rfl gFd (c0U rfl (by omega))) ?_;refine go 4 ?_;refine m0W (wg rfl rfl rfl (wTT gT)) (a0U Sc.o rfl gFd (c0U (i:=i-1) (by omega) (by omega))) ?_;refine go 2 ?_;refine b0U rfl Hb.o rfl (u0Z _ _) gSp ?_;refine ns ?_;refine go 4 ?_;refine a0P rfl (fun hb32=> ?_) (fun hb32=> ?_)
   ·have hgt:xat xs (i-1)<xat xs i:=by
     have h1: ¬xat xs i<xat xs (i-1):=by simpa using hb32
     have h2:=b1L hnd (show i<xs.length by omega) (show i-1<xs.length by omega) (by omega);omega
    refine go 8 ?_;rw[show(i:Int)+1=((i+1:Nat):Int) by omega];exact rd idh (⟨i+1,by omega,by omega,hs.push fun _=>hgt⟩)
   ·refine go 1 ?_;exact me idh (⟨i,hi1,hi2,hs⟩)
  ·refine tl 13 ?_;refine go 21 ?_;exact me idh (⟨i,hi1,hi2,hs⟩)
 rintro⟨i,hi1,hi2,hs⟩;dsimp only;refine go 7 ?_;rw[show((i:Int) == (b:Int))=decide (i=b) by rw[Bool.eq_iff_iff];simp;omega];refine go 1 ?_;refine a0P rfl (fun hb37=> ?_) (fun hb37=> ?_)
 ·have hib:i=b:=of_decide_eq_true hb37;refine go 5 ?_;exact rE idh true (fun _=>hib▸hs)
 ·refine go 17 ?_;exact rE idh false (fun h=>(by cases h))
theorem q2N (g n cap:Nat) (hn:n≤16): ∀(k a b lim:Nat) (xs:List Int),xs.length=n→a≤b→b≤n→b<a+k→b≤a+lim+12→lim≤64→xs.Nodup→(∀i,0<a→a≤i→i<b→xat xs (a-1)<xat xs i)→
 a0F prog 179 #[slU g n cap,.int .i64 a,.int .i64 b,.int .i64 lim] [f0K g n cap xs] (b0N (fun ys:List Int=>SP a b xs ys∧Srt a b ys) (fun _=> .tuple #[]) (fun ys=> [f0K g n cap ys])):=by
 intro k
 induction k with
 |zero=>intro a b lim xs hl hab hb hk;omega
 |succ k ih=>
  intro a b lim xs hl hab hb hk hlim hlm hnd hsep;refine en func179 ntmps179 fun R w0=> ?_;refine go 11 ?_;refine a0V (X:= {y:Nat×Nat×Nat×Bool×Bool×List Int // Pq a b xs y.1 y.2.1 y.2.2.2.2.2∧y.2.1≤y.1+y.2.2.1+12∧y.2.2.1≤lim}) (fun y=> [(0,slU g n cap),(1,.int .i64 y.1.1),(2,.int .i64 y.1.2.1),(3,.int .i64 y.1.2.2.1),(8,.bool y.1.2.2.2.1),(9,.bool y.1.2.2.2.2.1)]) (fun y=> [f0K g n cap y.1.2.2.2.2.2,R]) (fun y=>y.1.2.1-y.1.1) ⟨(a,b,lim,true,true,xs),Pq.new hab hsep,hlim,Nat.le_refl _⟩ gSu gSp ?_;rintro⟨⟨c,d,lm,wb,wp,ys⟩,hq,hll,hlm2⟩ m0 hm0
  try simp only at hm0
  try dsimp only
  dsimp only at hq hll hlm2;have hle:=hq.le;have hyl:=hq.sp.len;have hyn:=hq.sp.nodup hnd;refine go 8 ?_;rw[show(d:Int)- (c:Int)=((d-c:Nat):Int) by omega];refine go 8 ?_;refine a0P rfl (fun hb23=> ?_) (fun hb23=> ?_)
  ·refine ce 5 (o2Y g n cap c d ys (by omega) (by omega) (by omega) (by omega) hyn) ?_;rintro zs ⟨h1,h2⟩;refine ns ?_;refine go 2 ?_;exact rE idh zs ⟨hq.sp.trans (h1.mono hle.1 hle.2.2),hq.done zs h1 h2⟩
  ·have hlen:12<d-c:=by have:=of_decide_eq_false hb23;omega
   refine go 12 ?_;refine i0P (X:= {y:Nat×List Int // Pq a b xs c d y.2∧d≤c+y.1+13∧y.1≤lim}) (fun y=> [(0,slU g n cap),(1,.int .i64 c),(2,.int .i64 d),(3,.int .i64 y.1.1),(8,.bool wb),(9,.bool wp),(10,.int .i64 ((d-c:Nat):Int))]) (fun y=> [f0K g n cap y.1.2,R]) ?_ ?_
   ·refine go 6 ?_;refine a0P rfl (fun hb35=> ?_) (fun hb35=> ?_)
    ·refine ce 5 (u2F g n cap c d ys (by omega) hn (by omega) (by omega)) ?_;rintro zs h1;refine ns ?_;refine go 7 ?_;rw[show(lm:Int)-1=((lm-1:Nat):Int) by omega];exact me idh (⟨(lm-1,zs),hq.mix hnd (by omega) h1,by(show d≤c+(lm-1)+13);omega,by(show lm-1≤lim);omega⟩)
    ·refine go 1 ?_;exact me idh (⟨(lm,ys),hq,by(show d≤c+lm+13);omega,hlm2⟩)
   rintro⟨⟨l2,y2⟩,hq2,hl2,hl3⟩;dsimp only at hq2 hl2 hl3 ⊢;have hyl2:=hq2.sp.len;have hyn2:=hq2.sp.nodup hnd;refine ce 5 (u2D g n cap c d y2 (by omega) hn (by omega) (by omega)) ?_;rintro⟨p,hint⟩ ⟨hp,hh⟩;refine ns ?_;dsimp only at hp hh ⊢;refine go 14 ?_;refine b0R rfl (by rcases hh with rfl|rfl<;>rfl) ?_;refine go 2 ?_;refine q0V ([(0,slU g n cap),(1,.int .i64 c),(2,.int .i64 d),(3,.int .i64 l2),(10,.int .i64 ((d-c:Nat):Int)),(11,.int .i64 p)]) ([f0K g n cap y2,R]) ?_ ?_
   ·refine go 1 ?_;rcases Bool.eq_false_or_eq_true wb with hwb|hwb
    ·rcases Bool.eq_false_or_eq_true wp with hwp|hwp
     ·refine go 11 ?_;refine a0P rfl (fun hb68=> ?_) (fun hb68=> ?_)
      ·refine ce 5 (j2W g n cap c d y2 (by omega) hn (by omega) (by omega) hyn2) ?_;rintro y hy;refine ns ?_;refine go 2 ?_;refine a0P rfl (fun hb72=> ?_) (fun hb72=> ?_)
       ·exact rE idh y2 ⟨hq2.sp,hq2.done y2 (SP.refl _ _ _) (hy hb72)⟩
       ·refine go 1 ?_;exact h0C idh gSu gSp
      ·refine go 1 ?_;exact h0C idh gSu gSp
     ·refine go 13 ?_;exact h0C idh gSu gSp
    ·refine go 13 ?_;exact h0C idh gSu gSp
   refine q0V ([(0,slU g n cap),(1,.int .i64 c),(2,.int .i64 d),(3,.int .i64 l2),(10,.int .i64 ((d-c:Nat):Int)),(11,.int .i64 p)]) ([f0K g n cap y2,R]) ?_ ?_
   ·refine go 1 ?_;by_cases hc0:0<c
    ·refine tl 12 ?_;refine go 7 ?_;refine m0W (wg rfl rfl rfl (wTT gT)) (a0U Sc.o rfl gFd (c0U (i:=c-1) (by omega) (by omega))) ?_;refine go 3 ?_;refine m0W (wg rfl rfl rfl (wTT gT)) (a0U Sc.o rfl gFd (c0U rfl (by omega))) ?_;refine go 2 ?_;refine b0U rfl Hb.o rfl (u0Z _ _) gSp ?_;refine ns ?_;refine go 4 ?_;refine b0R rfl (by have:=hq2.sep p hc0 hp.1 hp.2;simpa using this) ?_;refine go 1 ?_;exact h0C idh gSu gSp
    ·refine tl 12 ?_;refine go 20 ?_;exact h0C idh gSu gSp
   refine ce 6 (w2L g n cap c d p y2 (by omega) (by omega) (by omega) (by omega) hp hyn2) ?_;rintro⟨m,al,zs⟩ ⟨h1,hm⟩;refine ns ?_;dsimp only at h1 hm ⊢;have hmm:=hm.1;have hmd:=hm.2.1;have hqz:=hq2.mix hnd (by omega) h1;have hzl:=hqz.sp.len;have hzn:=hqz.sp.nodup hnd;refine go 39 ?_;refine a0P rfl (fun hb113=> ?_) (fun hb113=> ?_)
   ·refine ce 14 (ih c m l2 zs (by omega) (by omega) (by omega) (by omega) (by omega) (by omega) hzn (hqz.sepL hm)) ?_;rintro ws ⟨g1,g2⟩;refine ns ?_;refine go 7 ?_;rw[show(m:Int)+1=((m+1:Nat):Int) by omega];refine c1V idh (⟨(m+1,d,l2,decide (((d-c:Nat):Int)/8≤(m:Int)- (c:Int)),al,ws),hqz.left hnd (by omega) hm g1 g2,by(show d≤m+1+l2+12);omega,hl3⟩) (by(show d- (m+1)<_);omega) gSu gSp
   ·refine go 14 ?_;rw[show(m:Int)+1=((m+1:Nat):Int) by omega];refine ce 1 (ih (m+1) d l2 zs (by omega) (by omega) (by omega) (by omega) (by omega) (by omega) hzn hm.sepR) ?_;rintro ws ⟨g1,g2⟩;refine ns ?_;refine go 6 ?_;refine c1V idh (⟨(c,m,l2,decide (((d-c:Nat):Int)/8≤(d:Int)- (m:Int)),al,ws),hqz.right hnd (by omega) hm g1 g2,by(show m≤c+l2+12);omega,hl3⟩) (by(show m-c<_);omega) gSu gSp
section
section
variable {ν:Type} {ev:ν→Value}
theorem u2G (l b1 b:Nat) (m:List (Int×ν)) (J:List Int→a0C) (hy: ∀acc k,(∃rest,(m.map (·.1)).Perm (acc++k::rest))→a1O prog l #[u4 k] [J acc] (fun e L'=>e= .returned (.bool true)∧L'= [J (acc++ [k])])):
 a0F prog 136 #[.func (.yield l) #[] #[],ptr b1] [J [],pts b1 (.cells #[.map (some b)] 57 (0,0)),b0L b e0H ev m]
  (b0N (fun acc:List Int=>acc.Perm (m.map (·.1))) (fun _=> .tuple #[]) (fun acc=> [J acc,b0L b e0H ev m])):=by
 refine en func136 ntmps136 fun R w0=> ?_;refine go 3 ?_;refine t1C (ek:=e0H) (ev:=ev) (m:=m) d0I.o rfl gFd (fun r=> ?_);refine go 3 ?_;refine a0V (X:= {y:List Int×List (Int×ν)×Option (Int×ν) // (m.map (·.1)).Perm (y.1++y.2.1.map (·.1))}) (fun y=> [(0,.func (.yield l) #[] #[]),(5,ptr r)]) (fun y=> [J y.1.1,t0B r b e0H ev m y.1.2.1 y.1.2.2,R]) (fun y=>y.1.2.1.length) ⟨([],m,none),List.Perm.refl _⟩ gSu gSp ?_;rintro⟨⟨acc,todo,cur⟩,hp⟩ m0 hm0
 try simp only at hm0
 try dsimp only
 dsimp only at hp;refine go 2 ?_;refine z1V (ek:=e0H) (ev:=ev) rfl gFd (fun z todo' hz hn=> ?_);refine a0D (q2K rfl) ?_;refine go 3 ?_;refine a0P rfl (fun hb7=> ?_) (fun hb7=> ?_)
 ·obtain⟨k,rfl⟩:=Option.isSome_iff_exists.1 hb7;have hlen:todo.length=todo'.length+1:=by have:=hz.length_eq;simpa using this
  have hp2:(m.map (·.1)).Perm (acc++k.1::todo'.map (·.1)):=hp.trans (List.Perm.append_left _ (by simpa using hz.map (·.1)));refine go 5 ?_;refine a0D (z1W (ek:=e0H) (ev:=ev) rfl gFd) ?_;refine go 5 ?_;refine a1P ?_;refine t0N (d0V rfl) ?_;refine t0N (d0V rfl) ?_;refine h1J rfl rfl (hy acc k.1 ⟨_,hp2⟩) gSp ?_;refine ns ?_;refine t0N (a1H rfl) ?_;refine r1G ?_;refine go 3 ?_;exact rd idh (⟨(acc++ [k.1],todo',some k),by(show(m.map (·.1)).Perm (acc++ [k.1]++todo'.map (·.1)));rw[List.append_assoc];exact hp2⟩)
 ·refine go 1 ?_;have hz0:z=none:=by cases z with|none=>rfl|some _=>cases hb7
  have ht:=hn hz0;subst ht;have hp3:acc.Perm (m.map (·.1)):=(by simpa using hp:(m.map (·.1)).Perm acc).symm;refine b0G (fun w h=>t1B ((show Fnd _ (t0B r b e0H ev m todo' z) _ from gFd).sat h)) ?_;exact fE acc hp3
end
end
end Go.Proofs.Q
namespace Go.Proofs.Q
open Go Go.Sl Tryz
instance:Ag prog 244 2:=⟨kr⟩
instance:Fl prog 244 0 0:=⟨kr⟩
instance:Hb prog 205:=⟨kr⟩
instance:Hb prog 255:=⟨kr⟩
instance:Hb prog 256:=⟨kr⟩
instance:Sc prog 241:=⟨kr⟩
instance:Tsl prog 241 244 2:=⟨kr⟩
instance:Sz prog 241 1:=⟨kr⟩
instance:Sz prog 244 2:=⟨kr⟩
instance:Ttb prog 244 16:=⟨kr⟩
instance:Zr prog 241 (.slice none 0 0):=⟨kr⟩
instance:Zr prog 244 (.agg #[.int .i64 0,.int .i64 0]):=⟨kr⟩
instance:Pl prog 244 ([(0,1),(1,1)],.agg #[.int .i64 0,.int .i64 0]):=⟨kr⟩
instance:Hb prog 31:=⟨kr⟩
instance:Hb prog 32:=⟨kr⟩
instance:Hb prog 41:=⟨kr⟩
instance:Pl prog 34 ([(0,1),(1,1),(2,1),(3,1)],.agg #[.slice none 0 0,.int .i64 0,.int .i64 0,.int .i64 0]):=⟨kr⟩
instance:Pl prog 37 ([(0,1),(1,4)],.agg #[.pointer none,.slice none 0 0,.int .i64 0,.int .i64 0,.int .i64 0]):=⟨kr⟩
theorem F.pt35:Sl.e1Z prog 35=true:=by kernel_rfl
theorem F.pt55:Sl.e1Z prog 55=true:=by kernel_rfl
theorem F.pt56:Sl.e1Z prog 56=true:=by kernel_rfl
instance:Hb prog 84:=⟨kr⟩
instance:Hb prog 85:=⟨kr⟩
instance:Hb prog 86:=⟨kr⟩
instance:Hb prog 87:=⟨kr⟩
instance:Pl prog 154 ([(0,1),(1,1)],.agg #[.slice none 0 0,.int .i64 0]):=⟨kr⟩
instance:Pl prog 194 ([(0,1),(1,1)],.agg #[.pointer none,.pointer none]):=⟨kr⟩
instance:Pl prog 210 ([(0,1),(1,1),(2,1)],.agg #[.pointer none,.int .i64 0,.map none]):=⟨kr⟩
instance:Pl prog 59 ([(0,1),(1,1),(2,1),(3,1),(4,1)],.agg #[.pointer none,.pointer none,.map none,.int .u32 0,.int .u32 0]):=⟨kr⟩
instance:Pl prog 92 ([(0,1),(1,1),(2,1),(3,1),(4,1),(5,1),(6,1)],.agg #[.pointer none,.pointer none,.pointer none,.map none,.map none,.slice none 0 0,.int .i64 0]):=⟨kr⟩
instance:Hb prog 99:=⟨kr⟩
instance:Pl prog 173 ([(0,1),(1,1),(2,1),(3,1)],.agg #[.slice none 0 0,.bool false,.int .i64 0,.bool false]):=⟨kr⟩
instance:Pl prog 175 ([(0,1),(1,1)],.agg #[.string ByteArray.empty,.string ByteArray.empty]):=⟨kr⟩
instance:Sz prog 171 1:=⟨kr⟩
instance:Ttb prog 175 32:=⟨kr⟩
instance:Zr prog 175 (.agg #[.string ByteArray.empty,.string ByteArray.empty]):=⟨kr⟩
instance:Hb prog 59:=⟨kr⟩
instance:Hb prog 64:=⟨kr⟩
instance:Hb prog 65:=⟨kr⟩
instance:Hb prog 66:=⟨kr⟩
instance:Hb prog 68:=⟨kr⟩
instance:Hb prog 69:=⟨kr⟩
instance:Hb prog 143:=⟨kr⟩
instance:Hb prog 144:=⟨kr⟩
instance:Hb prog 92:=⟨kr⟩
instance:Hb prog 98:=⟨kr⟩
instance:Pl prog 50 ([(0,1),(1,1),(2,1),(3,1),(4,1),(5,1)],.agg #[.int .u32 0,.int .u32 0,.bool false,.int .i64 0,.int .i64 0,.int .u32 0]):=⟨kr⟩
instance:Hb prog 137:=⟨kr⟩
instance:Hb prog 138:=⟨kr⟩
instance:Hb prog 93:=⟨kr⟩
instance:Sc prog 165:=⟨kr⟩
instance:Hb prog 117:=⟨kr⟩
instance:Hb prog 17:=⟨kr⟩
end Go.Proofs.Q
namespace Go.Proofs.Q
open Go.Sl Go.Sb Tryz
section
attribute [local semireducible] Sl.a0O Sl.OW Sl.CW Sl.OS Sl.OM Sl.OMf Sl.KM
section
variable {c:Cx} {op:Oper} {env:List (Nat×Value)} {L M:List a0C} {a:Ad} {s:St} {v:Value}
theorem l1M (hL:Fnd L (HL a s) M) (h: ∀by_ gv gc o,Sl.a0O c op env (e0E a by_ o s.log s.depth::(TT a by_ gv gc s++M)) v):Sl.a0O c op env L v:=by
 intro act w hh;obtain⟨x,hs⟩:=g0X.1 (hL.sat hh.sat);have h1:=b0J.1 hs;obtain⟨by_,gv,gc,o⟩:=x;simp only[hlV,List.cons_append]at h1;have h2:=(t0J.1 (h1.perm (List.Perm.swap _ _ _))).2;exact h by_ gv gc o act w ⟨hh.size,hh.slots,hh.defers,h2,hh.like⟩
end
section
variable {α:Type} {m:M α} {s t:St} {x:St×Car α}
theorem v1K {u:Unit} (h:f0F m (s,.start)=(.ok u,x)): ∃a,x=(x.1,.done a)∧m s=(.ok a,x.1):=by
 unfold f0F at h;simp only at h;split at h<;>cases h
 rename_i e;exact⟨_,rfl,e⟩
theorem p1Y {e:Int} (h:f0F m (s,.start)=(.err e,x)):x=(x.1,.lost)∧m s=(.err e,x.1):=by
 unfold f0F at h;simp only at h;split at h<;>cases h
 rename_i e;exact⟨rfl,e⟩
theorem e1R:(f0F m (s,.start)).1≠ .big↔(m s).1≠ .big:=by
 unfold f0F;simp only;split<;>(rename_i e;rw[e];simp)
theorem m0I {a:α} (h:m s=(.ok a,t)):f0F m (s,.start)=(.ok (),(t,.done a)):=by unfold f0F;simp only[h]
theorem c0L {e:Int} (h:m s=(.err e,t)):f0F m (s,.start)=(.err e,(t,.lost)):=by unfold f0F;simp only[h]
end
def u0A {α:Type} (A0:a0C) (A1:α→a0C):Car α→a0C
 | .start=>A0
 | .done a=>A1 a
 | .lost=>b0D []
abbrev RSC {α:Type} (W:World) (a:Ad) (A0:a0C) (A1:α→a0C) (x:St×Car α):List a0C:=RS W a x.1++ [u0A A0 A1 x.2]
abbrev g0B (b:Nat) (a:Ad):a0C:=pts b (.cells #[ptr a.core] 35 (0,0))
abbrev f0L (b:Nat) (n:Int):a0C:=pts b (.cells #[.int .i64 n] 3 (0,0))
abbrev j0O (b:Nat) (n:Int):a0C:=pts b (.cells #[.int .u32 n] 47 (0,0))
abbrev e2Q (b:Nat) (g:FuncId) (cap:List Value):a0C:=pts b (.cells #[.func (.func g) #[] cap.toArray] 1 (0,0))
theorem o2Z (n:Int):PB (o0A n):=s0J _ (fun s=> {s with keep:=max n 0}) fun _=>rfl
theorem p2A (more:Nat):PB (Go.Sb.k0H more):=fun s=>by
 unfold Go.Sb.k0H;refine b0P (o2Z _) (fun _ t=> ?_) s;split<;>rfl
abbrev r0G {α:Type} (W:World) (a:Ad) (A0:a0C) (A1:α→a0C) (g:FuncId) (cap:List Value) (bits:Nat) (m:M α):Prop:= ∀t:St,t.bits=bits→(m t).1≠ .big→
 a0F prog g cap.toArray (RS W a t++ [A0]) (Ran fT (RSC W a A0 A1) k0I (f0F m (t,.start)))
abbrev e2R (a:Ad) (A0:a0C) (b0 b1 b2:Nat) (more:Nat) (g:FuncId) (cap:List Value):a0C:=b0D [g0B b0 a,f0L b1 more,e2Q b2 g cap,A0]
attribute [local irreducible] Sl.a0O Sl.OW Sl.CW Sl.OS Sl.OM Sl.OMf Sl.KM
theorem j2X {α:Type} (W:World) (a:Ad) (A0:a0C) (A1:α→a0C) (b0 b1 b2 more:Nat) (g:FuncId) (cap:List Value) (m:M α) (s:St) (hb:e0Y prog g=true) (hmo:more≤1000) (hvl:s.vols.length≤1000)
 (hg:r0G W a A0 A1 g cap s.bits m) (hnb:(e0O more m s).1≠ .big):
 a0F prog 116 #[ptr b0,ptr b1,ptr b2] (RS W a s++ [e2R a A0 b0 b1 b2 more g cap]) (Ran fT (RSC W a (e2R a A0 b0 b1 b2 more g cap) A1) k0I (f0F (e0O more m) (s,.start))):=by
 have hnb0:(Go.Sb.k0H more s).1≠ .big:=c0I hnb;have hpb:(Go.Sb.k0H more s).2.bits=s.bits:=p2A more s;obtain⟨room,hroom⟩: ∃r:Int,r=2*((s.vols.length+more:Nat):Int):=⟨_,rfl⟩;have ea:Go.Sb.k0H more s=a0B (o0A room) (fun _ s=>if 0<more∧(b0K s:Int)<room then(.err 8,s)else(.ok (),s)) s:=by unfold Go.Sb.k0H;rw[hroom]
 have em:e0O more m s=a0B (Go.Sb.k0H more) (fun _=>m) s:=rfl;refine ns ?_;by_cases hm0:more=0
 ·refine en func116 ntmps116 fun R w0=> ?_;refine k0Q (show Fnd _ (b0D [g0B b0 a,f0L b1 more,e2Q b2 g cap,A0]) _ from gFd) ?_;refine ns ?_;refine go 5 ?_;refine b0X (j0K Sc.o rfl gFd rfl) ?_;refine b0X (l1M gFd fun by_ gv gc o=>by rw[d0M];simp only[List.cons_append,List.nil_append];exact j1T d0I.o rfl gFd) ?_;refine go 3 ?_;rw[show 2*(((s.vols.length:Nat):Int)+((more:Nat):Int))=room by rw[hroom];omega];refine go 8 ?_;refine a0D (j0K Sc.o rfl gFd rfl) ?_;refine go 1 ?_;refine a0X rfl Hb.o rfl (k1T W a s room (by rw[ea]at hnb0;exact c0I hnb0)) gSp (fun u t ho=> ?_) (fun e t ho=>by refine pn ?_;(have h9:Go.Sb.k0H more s=(.err e,t):=(by rw[ea];exact a0I ho);refine b0G (fun w h=>b0Y h) ?_;exact b0W (c0L (em.trans (a0I h9))) idh gSp));refine ns ?_;refine go 1 ?_;have h9:Go.Sb.k0H more s=(.ok (),t):=by rw[ea,a0A ho,if_neg (by omega)]
  rw[h9]at hpb;refine go 22 ?_;refine a0X rfl hb rfl (hg t hpb (o0S hnb h9)) gSp (fun v ⟨t',oc⟩ ho=> ?_) (fun e t ho=>by refine pn ?_;(obtain⟨t1,t2⟩:=t;obtain⟨hx,hm⟩:=p1Y ho;obtain rfl:t2= .lost:=congrArg Prod.snd hx;have hm:_=(Out.err e,t1):=hm;exact b0W (c0L (em.trans ((a0A h9).trans hm))) idh gSp));refine ns ?_;refine go 1 ?_;obtain⟨y,hx,hm⟩:=v1K ho;obtain rfl:oc= .done y:=congrArg Prod.snd hx;have hm:_=(Out.ok y,t'):=hm;simp only[RSC,u0A,List.cons_append,List.nil_append];exact fR (s:=(t',.done y)) (m0I (em.trans ((a0A h9).trans hm)))
 ·have hm1:0<more:=by omega
  refine en func116 ntmps116 fun R w0=> ?_;refine k0Q (show Fnd _ (b0D [g0B b0 a,f0L b1 more,e2Q b2 g cap,A0]) _ from gFd) ?_;refine ns ?_;refine go 5 ?_;refine b0X (j0K Sc.o rfl gFd rfl) ?_;refine b0X (l1M gFd fun by_ gv gc o=>by rw[d0M];simp only[List.cons_append,List.nil_append];exact j1T d0I.o rfl gFd) ?_;refine go 3 ?_;rw[show 2*(((s.vols.length:Nat):Int)+((more:Nat):Int))=room by rw[hroom];omega];refine go 8 ?_;refine a0D (j0K Sc.o rfl gFd rfl) ?_;refine go 1 ?_;refine a0X rfl Hb.o rfl (k1T W a s room (by rw[ea]at hnb0;exact c0I hnb0)) gSp (fun u t ho=> ?_) (fun e t ho=>by refine pn ?_;(have h9:Go.Sb.k0H more s=(.err e,t):=(by rw[ea];exact a0I ho);refine b0G (fun w h=>b0Y h) ?_;exact b0W (c0L (em.trans (a0I h9))) idh gSp));refine ns ?_;refine go 1 ?_;have hok:=ho;refine go 10 ?_;refine c0R (j0K Sc.o rfl gFd rfl) (wg rfl rfl rfl (wTT gT)) ?_;refine cg 1 (d2K a t) ?_;refine go 5 ?_;refine a0P rfl (fun hb28=> ?_) (fun hb28=> ?_)
  ·have h9:Go.Sb.k0H more s=(.err 8,t):=by rw[ea,a0A hok,if_pos ⟨hm1,of_decide_eq_true hb28⟩]
   refine b0V (fun w h=>b0Y h) ?_;refine go 1 ?_;refine c0G rfl Hb.o rfl (c0S 8) gSp ?_;refine ns ?_;refine pn ?_;exact b0W (c0L (em.trans (a0I h9))) idh gSp
  ·have h9:Go.Sb.k0H more s=(.ok (),t):=by rw[ea,a0A hok,if_neg (fun h=>of_decide_eq_false hb28 h.2)]
   rw[h9]at hpb;refine go 4 ?_;refine a0X rfl hb rfl (hg t hpb (o0S hnb h9)) gSp (fun v ⟨t',oc⟩ ho=> ?_) (fun e t ho=>by refine pn ?_;(obtain⟨t1,t2⟩:=t;obtain⟨hx,hm⟩:=p1Y ho;obtain rfl:t2= .lost:=congrArg Prod.snd hx;have hm:_=(Out.err e,t1):=hm;exact b0W (c0L (em.trans ((a0A h9).trans hm))) idh gSp));refine ns ?_;refine go 1 ?_;obtain⟨y,hx,hm⟩:=v1K ho;obtain rfl:oc= .done y:=congrArg Prod.snd hx;have hm:_=(Out.ok y,t'):=hm;simp only[RSC,u0A,List.cons_append,List.nil_append];exact fR (s:=(t',.done y)) (m0I (em.trans ((a0A h9).trans hm)))
end
end Go.Proofs.Q

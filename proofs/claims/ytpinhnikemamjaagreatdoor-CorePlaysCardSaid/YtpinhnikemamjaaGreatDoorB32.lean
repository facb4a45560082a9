/- Part of the proof; no statement of its own. -/
import Derived.Test.YtpinhnikemamjaaGreatDoorB18
import Derived.Test.YtpinhnikemamjaaGreatDoorB29
import Derived.Test.YtpinhnikemamjaaGreatDoorB30
import Derived.Test.YtpinhnikemamjaaGreatDoorB31
import Derived.Test.YtpinhnikemamjaaGreatDoorB17
import Derived.Test.YtpinhnikemamjaaGreatDoorB23
import Derived.Test.YtpinhnikemamjaaGreatDoorB27
import Derived.Test.YtpinhnikemamjaaGreatDoorProg
import Derived.KernelRfl
import Derived.Test.YtpinhnikemamjaaGreatDoorB08
import Derived.Test.YtpinhnikemamjaaGreatDoorB28
set_option linter.all false
set_option maxRecDepth 4000
set_option maxHeartbeats 4000000
attribute [local irreducible] Go.Sl.a0O Go.Sl.OW Go.Sl.CW Go.Sl.OS Go.Sl.OM Go.Sl.OMf Go.Sl.KM
namespace Go.Proofs.Q
open Go.Sl Go.Sb Tryz
section
theorem w2R (b:Nat):a0F prog 91 #[.map (some b)] [] (b0N (fun _:Nat=>True) (fun x=> .func (.func 136) #[] #[ptr x]) (fun x=> [pts x (.cells #[.map (some b)] 57 (0,0))])):=by
 refine en func91 ntmps91 fun R w0=> ?_
 refine go 2 ?_
 refine bx fun b1=> ?_
 refine go 9 ?_
 exact rE idh b1 trivial
abbrev ksA (b2:Nat) (acc:List Int) (v:Value):List a0C:= [pts b2 (.cells #[v] 159 (0,0)),b0H 47 1 v acc.length (us acc)]
abbrev ksJ (b2 l:Nat) (rec:Loop) (acc:List Int):a0C:=ex fun v:Value=>b0D (pts l (.loop (i0M rec none))::ksA b2 acc v)
theorem b2C {b2 l:Nat} {rec:Loop} {acc:List Int} {w:World} {M:List a0C} (v:Value) (h:Sat w (pts l (.loop (i0M rec none))::(ksA b2 acc v++M))):Sat w (ksJ b2 l rec acc::M):=g0X.2 ⟨v,b0J.2 h⟩
section
variable {ν:Type} {ev:ν→Value}
theorem y1G (b b1:Nat) (m:List (Int×ν)) (hm:m.length≤1000):a0F prog 178 #[.slice none 0 0,.func (.func 136) #[] #[ptr b1]] [pts b1 (.cells #[.map (some b)] 57 (0,0)),b0L b e0H ev m]
 (b0N (fun x:Value×List Int=>x.2.Perm (m.map (·.1))) (fun x=>x.1) (fun x=> [b0H 47 1 x.1 x.2.length (us x.2),b0L b e0H ev m])):=by
 refine y0X func178 rfl ntmps178 rfl (fun R w0=> ?_)
 simp only[j0Q,List.cons_append,List.nil_append]
 refine go 1 ?_
 refine b0V (fun w h=>e0W 47 1 w h) ?_
 refine go 1 ?_
 refine bx fun b2=> ?_
 refine go 10 ?_
 refine h1M (X:=List Int) (ok:=fun acc=>acc.Perm (m.map (·.1))) (v:=fun _=> .tuple #[]) (jump:=fun _=>none) (N:=fun acc=> [b0L b e0H ev m,ex fun v:Value=>b0D (ksA b2 acc v)]) rfl Hb.o (show a0Z _ ([pts b1 (.cells #[.map (some b)] 57 (0,0)),b0L b e0H ev m]++ksA b2 [] (.slice none 0 0)) _ from gSp) ?_ ?_ ?_
 ·intro l D fn tmps hsz hsl rec hrec
  refine m1K (fun w F h=> ?_) (u2G (ev:=ev) l b1 b m (ksJ b2 l rec) (fun acc k hk=> ?_)) (fun e L hp=> ?_)
  ·simp only[List.cons_append,List.nil_append]at h ⊢
   have h1:Sat w (pts l (.loop (i0M rec none))::(ksA b2 [] (.slice none 0 0)++ [pts b1 (.cells #[.map (some b)] 57 (0,0)),b0L b e0H ev m,F])):=by
    simp only[List.cons_append,List.nil_append,i0M,Option.isNone_none,if_true]
    rw[show({rec with state:= .ready,pending:=none} :Loop)=rec by rw[hrec]]
    exact h.re gSp
   exact b2C _ h1
  rotate_left
  ·obtain⟨acc,hacc,rfl,rfl⟩:=hp
   refine⟨_,⟨acc,hacc,rfl,rfl⟩,fun w F h=> ?_⟩
   simp only[List.cons_append,List.nil_append]at h ⊢
   obtain⟨v,h2⟩:=g0X.1 h
   have h3:=b0J.1 h2
   simp only[List.cons_append,List.nil_append]at h3
   have h4:Sat w (b0D (ksA b2 acc v)::(pts l (.loop (i0M rec none)):: [b0L b e0H ev m,F])):=b0J.2 (by simp only[List.cons_append,List.nil_append];exact h3.re gSp)
   have h5:Sat w ((ex fun v=>b0D (ksA b2 acc v))::(pts l (.loop (i0M rec none)):: [b0L b e0H ev m,F])):=g0X.2 ⟨v,h4⟩
   exact h5.re gSp
  obtain⟨rst,hrst⟩:=hk
  have hal:acc.length+1≤1000:=by have:=hrst.length_eq;simp at this;omega
  refine h1N fun v=> ?_
  subst hrec
  refine y0W rfl hsz hsl rfl (fun R2 w2=> ?_)
  refine ns ?_
  skip
  refine o0M (by repeat (first|exact o0O|exact u0O|apply q0C|apply o0N)) rfl ?_
  refine go 2 ?_
  refine h1L rfl gFd ?_
  refine h1K ?_
  refine o0M (by repeat (first|exact o0O|exact u0O|apply q0C|apply o0N)) rfl ?_
  refine go 2 ?_
  refine bl fun b10=> ?_
  refine(c0Z Tsl.o Ttb.o Zr.o rfl rfl rfl gFd (e0Z Tsl.o (by simp;rfl) (by simp) (by simp[Value.oneCell'])) (by simp only[maxLen];omega) (by omega) (fun v11 hv11=> ?_))
  refine go 2 ?_
  repeat (first|with_reducible refine l0S ?_|with_reducible refine q0D ?_|with_reducible refine n0I rfl ?_)
  refine y0D gFd (fun w h=>⟨_,⟨rfl,rfl⟩,b2C (M:= [R2]) v11 ?_⟩) rfl
  simp only[List.cons_append,List.nil_append]at h ⊢
  rw[show b0H 47 1 v11 (acc++ [k]).length (us (acc++ [k]))=b0H 47 1 v11 (acc.length+1) (us acc++ [u4 k]) by rw[List.length_append,us,List.map_append];rfl]
  exact h.sub gSp
 ·intro D x hx hj
  skip
  refine go 2 ?_
  refine ns ?_
  refine u0N (show Fnd _ (ex fun v:Value=>b0D (ksA b2 x v)) _ from gFd) fun v=> ?_
  refine ns ?_
  refine go 5 ?_
  exact f1E idh rfl gSp ⟨(v,x),hx,rfl,rfl⟩
 ·intro D x k hx hj
  cases hj
end
end
section
abbrev i8 (n:Int):Value:= .int .i64 n
abbrev j0P (xs:List Int):List Value:=xs.map i8
section
variable {ν:Type} {ev:ν→Value}
theorem u2O (l b1 b:Nat) (m:List (Int×ν)) (J:List Int→a0C) (hy: ∀acc k,(∃rest,(m.map (·.1)).Perm (acc++k::rest))→a1O prog l #[i8 k] [J acc] (fun e L'=>e= .returned (.bool true)∧L'= [J (acc++ [k])])):
 a0F prog 157 #[.func (.yield l) #[] #[],ptr b1] [J [],pts b1 (.cells #[.map (some b)] 89 (0,0)),b0L b a0J ev m]
  (b0N (fun acc:List Int=>acc.Perm (m.map (·.1))) (fun _=> .tuple #[]) (fun acc=> [J acc,b0L b a0J ev m])):=by
 refine en func157 ntmps157 fun R w0=> ?_
 refine go 3 ?_
 refine t1C (ek:=a0J) (ev:=ev) (m:=m) d0I.o rfl gFd (fun r=> ?_)
 refine go 3 ?_
 refine a0V (X:= {y:List Int×List (Int×ν)×Option (Int×ν) // (m.map (·.1)).Perm (y.1++y.2.1.map (·.1))}) (fun y=> [(0,.func (.yield l) #[] #[]),(5,ptr r)]) (fun y=> [J y.1.1,t0B r b a0J ev m y.1.2.1 y.1.2.2,R]) (fun y=>y.1.2.1.length) ⟨([],m,none),List.Perm.refl _⟩ gSu gSp ?_
 rintro⟨⟨acc,todo,cur⟩,hp⟩ m0 hm0
 try simp only at hm0
 try dsimp only
 dsimp only at hp
 refine go 2 ?_
 refine z1V (ek:=a0J) (ev:=ev) rfl gFd (fun z todo' hz hn=> ?_)
 refine a0D (q2K rfl) ?_
 refine go 3 ?_
 refine a0P rfl (fun hb7=> ?_) (fun hb7=> ?_)
 ·obtain⟨k,rfl⟩:=Option.isSome_iff_exists.1 hb7
  have hlen:todo.length=todo'.length+1:=by have:=hz.length_eq;simpa using this
  have hp2:(m.map (·.1)).Perm (acc++k.1::todo'.map (·.1)):=hp.trans (List.Perm.append_left _ (by simpa using hz.map (·.1)))
  refine go 5 ?_
  refine a0D (z1W (ek:=a0J) (ev:=ev) rfl gFd) ?_
  refine go 5 ?_
  refine a1P ?_
  refine t0N (d0V rfl) ?_
  refine t0N (d0V rfl) ?_
  refine h1J rfl rfl (hy acc k.1 ⟨_,hp2⟩) gSp ?_
  refine ns ?_
  refine t0N (a1H rfl) ?_
  refine r1G ?_
  refine go 3 ?_
  exact rd idh (⟨(acc++ [k.1],todo',some k),by(show(m.map (·.1)).Perm (acc++ [k.1]++todo'.map (·.1)));rw[List.append_assoc];exact hp2⟩)
 ·refine go 1 ?_
  have hz0:z=none:=by cases z with|none=>rfl|some _=>cases hb7
  have ht:=hn hz0
  subst ht
  have hp3:acc.Perm (m.map (·.1)):=(by simpa using hp:(m.map (·.1)).Perm acc).symm
  refine b0G (fun w h=>t1B ((show Fnd _ (t0B r b a0J ev m todo' z) _ from gFd).sat h)) ?_
  exact fE acc hp3
end
theorem w2S (b:Nat):a0F prog 112 #[.map (some b)] [] (b0N (fun _:Nat=>True) (fun x=> .func (.func 157) #[] #[ptr x]) (fun x=> [pts x (.cells #[.map (some b)] 89 (0,0))])):=by
 refine en func112 ntmps112 fun R w0=> ?_
 refine go 2 ?_
 refine bx fun b1=> ?_
 refine go 9 ?_
 exact rE idh b1 trivial
abbrev isA (b2:Nat) (acc:List Int) (v:Value):List a0C:= [pts b2 (.cells #[v] 90 (0,0)),b0H 3 1 v acc.length (j0P acc)]
abbrev isJ (b2 l:Nat) (rec:Loop) (acc:List Int):a0C:=ex fun v:Value=>b0D (pts l (.loop (i0M rec none))::isA b2 acc v)
theorem b2D {b2 l:Nat} {rec:Loop} {acc:List Int} {w:World} {M:List a0C} (v:Value) (h:Sat w (pts l (.loop (i0M rec none))::(isA b2 acc v++M))):Sat w (isJ b2 l rec acc::M):=g0X.2 ⟨v,b0J.2 h⟩
section
variable {ν:Type} {ev:ν→Value}
theorem y1H (b b1:Nat) (m:List (Int×ν)) (hm:m.length≤100000):a0F prog 190 #[.slice none 0 0,.func (.func 157) #[] #[ptr b1]] [pts b1 (.cells #[.map (some b)] 89 (0,0)),b0L b a0J ev m]
 (b0N (fun x:Value×List Int=>x.2.Perm (m.map (·.1))) (fun x=>x.1) (fun x=> [b0H 3 1 x.1 x.2.length (j0P x.2),b0L b a0J ev m])):=by
 refine y0X func190 rfl ntmps190 rfl (fun R w0=> ?_)
 simp only[j0Q,List.cons_append,List.nil_append]
 refine go 1 ?_
 refine b0V (fun w h=>e0W 3 1 w h) ?_
 refine go 1 ?_
 refine bx fun b2=> ?_
 refine go 10 ?_
 refine h1M (X:=List Int) (ok:=fun acc=>acc.Perm (m.map (·.1))) (v:=fun _=> .tuple #[]) (jump:=fun _=>none) (N:=fun acc=> [b0L b a0J ev m,ex fun v:Value=>b0D (isA b2 acc v)]) rfl Hb.o (show a0Z _ ([pts b1 (.cells #[.map (some b)] 89 (0,0)),b0L b a0J ev m]++isA b2 [] (.slice none 0 0)) _ from gSp) ?_ ?_ ?_
 ·intro l D fn tmps hsz hsl rec hrec
  refine m1K (fun w F h=> ?_) (u2O (ev:=ev) l b1 b m (isJ b2 l rec) (fun acc k hk=> ?_)) (fun e L hp=> ?_)
  ·simp only[List.cons_append,List.nil_append]at h ⊢
   have h1:Sat w (pts l (.loop (i0M rec none))::(isA b2 [] (.slice none 0 0)++ [pts b1 (.cells #[.map (some b)] 89 (0,0)),b0L b a0J ev m,F])):=by
    simp only[List.cons_append,List.nil_append,i0M,Option.isNone_none,if_true]
    rw[show({rec with state:= .ready,pending:=none} :Loop)=rec by rw[hrec]]
    exact h.re gSp
   exact b2D _ h1
  rotate_left
  ·obtain⟨acc,hacc,rfl,rfl⟩:=hp
   refine⟨_,⟨acc,hacc,rfl,rfl⟩,fun w F h=> ?_⟩
   simp only[List.cons_append,List.nil_append]at h ⊢
   obtain⟨v,h2⟩:=g0X.1 h
   have h3:=b0J.1 h2
   simp only[List.cons_append,List.nil_append]at h3
   have h4:Sat w (b0D (isA b2 acc v)::(pts l (.loop (i0M rec none)):: [b0L b a0J ev m,F])):=b0J.2 (by simp only[List.cons_append,List.nil_append];exact h3.re gSp)
   have h5:Sat w ((ex fun v=>b0D (isA b2 acc v))::(pts l (.loop (i0M rec none)):: [b0L b a0J ev m,F])):=g0X.2 ⟨v,h4⟩
   exact h5.re gSp
  obtain⟨rst,hrst⟩:=hk
  have hal:acc.length+1≤100000:=by have:=hrst.length_eq;simp at this;omega
  refine h1N fun v=> ?_
  subst hrec
  refine y0W rfl hsz hsl rfl (fun R2 w2=> ?_)
  refine ns ?_
  skip
  refine o0M (by repeat (first|exact o0O|exact u0O|apply q0C|apply o0N)) rfl ?_
  refine go 2 ?_
  refine h1L rfl gFd ?_
  refine h1K ?_
  refine o0M (by repeat (first|exact o0O|exact u0O|apply q0C|apply o0N)) rfl ?_
  refine go 2 ?_
  refine bl fun b10=> ?_
  refine(c0Z Tsl.o Ttb.o Zr.o rfl rfl rfl gFd (e0Z Tsl.o (by simp;rfl) (by simp) (by simp[Value.oneCell'])) (by simp only[maxLen];omega) (by omega) (fun v11 hv11=> ?_))
  refine go 2 ?_
  repeat (first|with_reducible refine l0S ?_|with_reducible refine q0D ?_|with_reducible refine n0I rfl ?_)
  refine y0D gFd (fun w h=>⟨_,⟨rfl,rfl⟩,b2D (M:= [R2]) v11 ?_⟩) rfl
  simp only[List.cons_append,List.nil_append]at h ⊢
  rw[show b0H 3 1 v11 (acc++ [k]).length (j0P (acc++ [k]))=b0H 3 1 v11 (acc.length+1) (j0P acc++ [i8 k]) by rw[List.length_append,j0P,List.map_append];rfl]
  exact h.sub gSp
 ·intro D x hx hj
  skip
  refine go 2 ?_
  refine ns ?_
  refine u0N (show Fnd _ (ex fun v:Value=>b0D (isA b2 x v)) _ from gFd) fun v=> ?_
  refine ns ?_
  refine go 5 ?_
  exact f1E idh rfl gSp ⟨(v,x),hx,rfl,rfl⟩
 ·intro D x k hx hj
  cases hj
end
end
section
theorem k2P:a0F prog 210 #[.slice none 0 0,.int .i64 0,.int .i64 0] [] (a0T (.tuple #[]) []):=by
 refine en func210 ntmps210 fun R w0=> ?_
 refine go 8 ?_
 refine a0V (X:=Unit) (fun y=> [(0,.slice none 0 0),(1,.int .i64 0),(2,.int .i64 0),(6,.int .i64 1)]) (fun y=> [R]) (fun y=>0) () gSu gSp ?_
 rintro⟨⟩ m0 hm0
 try simp only at hm0
 try dsimp only
 skip
 refine go 10 ?_
 refine d0W rfl rfl gSp
theorem w2T:a0F prog 179 #[.slice none 0 0,.int .i64 0,.int .i64 0,.int .i64 0] [] (a0T (.tuple #[]) []):=by
 refine en func179 ntmps179 fun R w0=> ?_
 refine go 11 ?_
 refine a0V (X:=Unit) (fun y=> [(0,.slice none 0 0),(1,.int .i64 0),(2,.int .i64 0),(3,.int .i64 0),(8,.bool true),(9,.bool true)]) (fun y=> [R]) (fun y=>0) () gSu gSp ?_
 rintro⟨⟩ m0 hm0
 try simp only at hm0
 try dsimp only
 skip
 refine cg 22 (k2P) ?_
 refine go 2 ?_
 exact rG
theorem w2U (v:Value) (xs:List Int) (hn:xs.length≤16) (hnd:xs.Nodup):a0F prog 135 #[v] [b0H 47 1 v xs.length (us xs)]
 (b0N (fun ys:List Int=>ys.Perm xs∧ys.Pairwise (· < ·)) (fun _=> .tuple #[]) (fun ys=> [b0H 47 1 v xs.length (us ys)])):=by
 by_cases h0:xs.length=0
 ·obtain rfl:xs= []:=List.length_eq_zero_iff.1 h0
  refine en func135 ntmps135 fun R w0=> ?_
  refine x1C (e:=47) gFd (fun hv _=> ?_) (fun g cap hv hcap=> ?_)
  ·subst hv
   refine cg 12 (q1T 0 (by omega)) ?_
   refine cg 0 (w2T) ?_
   refine go 1 ?_
   exact fE [] ⟨List.Perm.refl _,List.Pairwise.nil⟩
  ·subst hv
   refine cg 12 (q1T 0 (by omega)) ?_
   refine ce 0 (q2N g 0 cap (by omega) 1 0 0 0 [] rfl (by omega) (by omega) (by omega) (by omega) (by omega) hnd (by omega)) ?_
   rintro ys ⟨h1,h2⟩
   refine ns ?_
   refine go 1 ?_
   exact fE ys ⟨h1.perm,by rw[h1.perm.eq_nil];exact List.Pairwise.nil⟩
 ·obtain⟨n,hn2⟩: ∃n,n=xs.length:=⟨_,rfl⟩
  rw[←hn2]at hn h0 ⊢
  have hb:=n1R hn
  have hb12:n≤q0P n+12:=by rcases le16 hn with rfl|rfl|rfl|rfl|rfl|rfl|rfl|rfl|rfl|rfl|rfl|rfl|rfl|rfl|rfl|rfl|rfl<;>decide
  refine en func135 ntmps135 fun R w0=> ?_
  refine i0Y (e:=47) gFd (by omega) fun g cap hv hcap=> ?_
  subst hv
  refine go 12 ?_
  rw[show IntKind.u64.wrap (n:Int)=(n:Int)from e0L .u64 _ (by omega) (by show(n:Int)<9223372036854775808;omega)]
  refine cg 0 (q1T n hn) ?_
  refine ce 0 (q2N g n cap hn (n+1) 0 n (q0P n) xs hn2.symm (by omega) (by omega) (by omega) (by omega) (by omega) hnd (fun i h=>absurd h (by omega))) ?_
  rintro ys ⟨h1,h2⟩
  refine ns ?_
  refine go 1 ?_
  exact fE ys ⟨h1.perm,Srt.list (by rw[h1.len,←hn2];exact h2)⟩
section
variable {ν:Type} {ev:ν→Value}
theorem k2Q (b b1:Nat) (m:List (Int×ν)) (hm:m.length≤1000):a0F prog 134 #[.func (.func 136) #[] #[ptr b1]] [pts b1 (.cells #[.map (some b)] 57 (0,0)),b0L b e0H ev m]
 (b0N (fun x:Value×List Int=>x.2.Perm (m.map (·.1))) (fun x=>x.1) (fun x=> [b0H 47 1 x.1 x.2.length (us x.2),b0L b e0H ev m])):=by
 refine en func134 ntmps134 fun R w0=> ?_
 refine ce 8 (y1G b b1 m hm) ?_
 rintro x hx
 refine ns ?_
 refine go 3 ?_
 exact rE idh x hx
theorem p2J (b b1:Nat) (m:List (Int×ν)) (hm:m.length≤16) (hk:mok m):a0F prog 90 #[.func (.func 136) #[] #[ptr b1]] [pts b1 (.cells #[.map (some b)] 57 (0,0)),b0L b e0H ev m]
 (b0N (fun x:Value×List Int=>x.2.Perm (m.map (·.1))∧x.2.Pairwise (· < ·)) (fun x=>x.1) (fun x=> [b0H 47 1 x.1 x.2.length (us x.2),b0L b e0H ev m])):=by
 refine en func90 ntmps90 fun R w0=> ?_
 refine ce 8 (k2Q b b1 m (by omega)) ?_
 rintro⟨v,xs⟩ hx
 refine ns ?_
 dsimp only at hx ⊢
 have hl:xs.length≤16:=by have:=hx.length_eq;rw[List.length_map]at this;omega
 refine ce 6 (w2U v xs hl (hx.nodup_iff.2 hk)) ?_
 rintro ys ⟨h1,h2⟩
 refine ns ?_
 refine go 7 ?_
 rw[show xs.length=ys.length from h1.length_eq.symm]
 refine go 1 ?_
 exact rE idh (v,ys) ⟨h1.trans hx,h2⟩
theorem k2R (b b1:Nat) (m:List (Int×ν)) (hm:m.length≤100000):a0F prog 155 #[.func (.func 157) #[] #[ptr b1]] [pts b1 (.cells #[.map (some b)] 89 (0,0)),b0L b a0J ev m]
 (b0N (fun x:Value×List Int=>x.2.Perm (m.map (·.1))) (fun x=>x.1) (fun x=> [b0H 3 1 x.1 x.2.length (j0P x.2),b0L b a0J ev m])):=by
 refine en func155 ntmps155 fun R w0=> ?_
 refine ce 8 (y1H b b1 m hm) ?_
 rintro x hx
 refine ns ?_
 refine go 3 ?_
 exact rE idh x hx
theorem p2K (b b1:Nat) (m:List (Int×ν)) (hm:m.length≤100000):a0F prog 111 #[.func (.func 157) #[] #[ptr b1]] [pts b1 (.cells #[.map (some b)] 89 (0,0)),b0L b a0J ev m]
 (b0N (fun x:Value×List Int=>x.2.length=m.length) (fun x=>x.1) (fun x=> [b0H 3 1 x.1 x.2.length (j0P x.2),b0L b a0J ev m])):=by
 refine en func111 ntmps111 fun R w0=> ?_
 refine ce 8 (k2R b b1 m (by omega)) ?_
 rintro⟨v,xs⟩ hx
 refine ns ?_
 dsimp only at hx ⊢
 have hl:xs.length=m.length:=by have:=hx.length_eq;rw[List.length_map]at this;exact this
 refine ce 6 (h2V (e:=3) Tryz.slices_Sort_int Tryz.slices_Sort_int_none v xs (by omega)) ?_
 rintro ys h1
 refine ns ?_
 refine go 7 ?_
 rw[show xs.length=ys.length from h1.symm]
 refine go 1 ?_
 exact rE idh (v,ys) (h1.trans hl)
end
end
abbrev q2Q (s:St) (k:Int):Ent:=(a0E k s.vols).getD h0T
abbrev c1I (s:St) (k:Int):List Value:=h0L (q2Q s k)
theorem v1P (a:Ad) (s:St) (hm:s.vols.length≤16) (hk:mok s.vols):a0F prog 37 #[ptr a.core] [HL a s]
 (b0N (fun x:Value×List Int=>x.2.Perm (s.vols.map (·.1))∧x.2.Pairwise (· < ·)) (fun x=>x.1) (fun x=> [b0H 50 6 x.1 x.2.length (x.2.flatMap (c1I s)),HL a s])):=by
 refine en func37 ntmps37 fun R w0=> ?_
 refine e0J gFd fun by_ gv gc o hg hok=> ?_
 simp only[d0M,o0J,List.cons_append,List.nil_append]
 refine ce 17 (w2R a.vols) ?_
 rintro b0 _
 refine ns ?_
 refine ce 0 (p2J a.vols b0 s.vols hm hk) ?_
 rintro⟨v,xs⟩ ⟨h1,h2⟩
 refine ns ?_
 dsimp only at h1 h2 ⊢
 refine a0D (h0Y (e:=47) Tsl.o rfl gFd) ?_
 refine go 4 ?_
 refine b0V (d0A hg hok gSp) ?_
 refine b0V (fun w h=>e0W 50 6 w h) ?_
 have hxl:xs.length≤16:=by have:=h1.length_eq;rw[List.length_map]at this;omega
 refine o0L (e:=47) gFd fun p cap hv hcap _=> ?_
 subst hv
 refine a0V (X:= {y:Nat×Value // y.1≤xs.length}) (fun y=> [(0,ptr a.core),(3,y.1.2),(11,.slice p xs.length cap),(12,.int .i64 xs.length),(13,.int .i64 y.1.1)]) (fun y=> [b0H 50 6 y.1.2 y.1.1 ((xs.take y.1.1).flatMap (c1I s)),b0H 47 1 (.slice p xs.length cap) xs.length (us xs),HL a s,R]) (fun y=>xs.length-y.1.1) ⟨(0,.slice none 0 0),Nat.zero_le _⟩ gSu gSp ?_
 rintro⟨⟨i,u⟩,hi⟩ m0 hm0
 try simp only at hm0
 try dsimp only
 simp only at hi
 refine go 6 ?_
 refine a0P rfl (fun hb14=> ?_) (fun hb14=> ?_)
 ·have hil:i<xs.length:=by have:=of_decide_eq_true hb14;omega
  refine i0Y (e:=47) gFd (by omega) fun g cap' hv2 hcap2=> ?_
  cases hv2
  obtain⟨x,hx⟩: ∃x,x=(a0E xs[i] s.vols).getD h0T:=⟨_,rfl⟩
  refine go 7 ?_
  refine a0D (a0U Sc.o rfl gFd (j0I u4 xs i _ hil (by omega))) ?_
  refine go 3 ?_
  refine e0J gFd fun by_ gv gc o hg hok=> ?_
  simp only[d0M,o0J,List.cons_append,List.nil_append]
  refine go 7 ?_
  refine a0D (f0P (ek:=e0H) (ev:=d0Z) (k:=xs[i]) d0I.o b1P (tt fun _=>trivial) trivial Zr.o rfl rfl gFd d1V) ?_
  rw[←hx]
  simp only[d0Z,h0L]
  refine bl fun b24=> ?_
  refine(c0Z Tsl.o Ttb.o Zr.o rfl rfl rfl gFd (e0Z Tsl.o (by simp;rfl) (by simp) (by simp[Value.oneCell'])) (by simp only[maxLen];omega) (by omega) (fun v25 hv25=> ?_))
  refine go 2 ?_
  rw[show(xs.take i).flatMap (c1I s)++ [Value.int .u32 x.id,.int .u32 x.parent,.bool x.only,.int .i64 x.size,.int .i64 x.root,.int .u32 x.born]=(xs.take (i+1)).flatMap (c1I s) by rw[List.take_succ,List.getElem?_eq_getElem hil,List.flatMap_append,hx];simp[c1I,q2Q,h0L]]
  refine go 1 ?_
  refine b0V (d0A hg hok gSp) ?_
  refine go 4 ?_
  exact rd idh (⟨(i+1,v25),hil⟩)
 ·obtain rfl:i=xs.length:=by have:=of_decide_eq_false hb14;omega
  rw[List.take_length]
  refine go 8 ?_
  exact rE idh (u,xs) ⟨h1,h2⟩
theorem w2V {x:Hd} (h:y0N x):(hdL x).toArray.extract 0 (0+4)=(x.at_.map a0J).toArray:=d0X (a:= []) rfl (by simp[h.n])
theorem p2L {l:List Int} {i:Nat} (h:i<l.length):(l.take (i+1)).filter (0< ·)=(l.take i).filter (0< ·)++if 0<l[i]then [l[i]]else []:=by
 rw[List.take_succ,List.getElem?_eq_getElem h,List.filter_append,Option.toList_some]
 congr 1
 by_cases hp:0<l[i]<;>simp[hp]
theorem f2F (W:World) (a:Ad) (s:St) (k:Int) (x:Hd) (hk:k≠0) (hx:Go.Sb.g0W k s=(.ok x,s)):a0F prog 154 #[ptr a.st,.int .i64 k] (RS W a s)
 (b0N (fun _:Value=>True) id (fun v=>RS W a s++ [b0H 3 1 v (x.at_.filter (0< ·)).length (j0P (x.at_.filter (0< ·)))])):=by
 have kh:=v0X W a s k
 rw[hx]at kh
 have hh:=kh.ran_ok
 obtain⟨_,hln⟩:=q0M hx
 have hl4:x.at_.length=4:=hln.n
 refine en func154 ntmps154 fun R w0=> ?_
 refine go 17 ?_
 refine b0R rfl (by simpa using hk) ?_
 refine cg 7 (hh) ?_
 refine a0D (o0Q (v:=(x.at_.map a0J).toArray) F.fa230_0 rfl (w2V hln)) ?_
 refine go 4 ?_
 refine b0V (fun w h=>e0W 3 1 w h) ?_
 refine a0V (X:= {y:Nat×Value // y.1≤4}) (fun y=> [(5,y.1.2),(14,.agg (x.at_.map a0J).toArray),(15,.int .i64 y.1.1)]) (fun y=>RS W a s++ [b0H 3 1 y.1.2 ((x.at_.take y.1.1).filter (0< ·)).length (j0P ((x.at_.take y.1.1).filter (0< ·))),R]) (fun y=>4-y.1.1) ⟨(0,.slice none 0 0),Nat.zero_le _⟩ gSu gSp ?_
 rintro⟨⟨i,v⟩,hi⟩ m0 hm0
 try simp only at hm0
 try dsimp only
 simp only at hi
 refine ns ?_
 refine go 6 ?_
 refine a0P rfl (fun hb16=> ?_) (fun hb16=> ?_)
 ·have hi4:i<4:=by have:=of_decide_eq_true hb16;omega
  have hil:i<x.at_.length:=by omega
  have hn:=p2L hil
  have hfl:=List.length_filter_le (fun k:Int=>decide (0<k)) (x.at_.take i)
  rw[List.length_take]at hfl
  refine go 6 ?_
  refine a0D (p0V (v:=i8 x.at_[i]) Tar.o Sc.o rfl rfl (by omega) (j0I a0J x.at_ i _ hil (by omega))) ?_
  refine go 9 ?_
  refine a0P rfl (fun hb19=> ?_) (fun hb19=> ?_)
  ·rw[if_pos (of_decide_eq_true hb19)]at hn
   refine go 3 ?_
   refine bl fun b22=> ?_
   refine(c0Z Tsl.o Ttb.o Zr.o rfl rfl rfl gFd (e0Z Tsl.o (by simp;rfl) (by simp) (by simp[Value.oneCell'])) (by simp only[maxLen];omega) (by omega) (fun v23 hv23=> ?_))
   refine go 2 ?_
   rw[show j0P ((x.at_.take i).filter (0< ·))++ [Value.int .i64 x.at_[i]]=j0P ((x.at_.take (i+1)).filter (0< ·)) by rw[hn];simp[j0P],show((x.at_.take i).filter (0< ·)).length+1=((x.at_.take (i+1)).filter (0< ·)).length by rw[hn,List.length_append];rfl]
   refine go 5 ?_
   exact rd idh (⟨(i+1,v23),hi4⟩)
  ·rw[if_neg (of_decide_eq_false hb19),List.append_nil]at hn
   rw[←hn]
   refine go 6 ?_
   exact rd idh (⟨(i+1,v),hi4⟩)
 ·obtain rfl:i=4:=by have:=of_decide_eq_false hb16;omega
  rw[List.take_of_length_le (by omega)]
  refine go 8 ?_
  exact rE idh v trivial
theorem g1X {G:Gh} {k:Int} {m:List (Int×Int)} (h:k≤0∨0<(a0E k m).getD 0):e0V G 0 k m=m:=by unfold e0V;rw[if_pos h]
abbrev v0B (W:World) (a:Ad) (s:St) (G:Gh) (l:Nat):Prop:= ∀(at_:Int) (b:Nat) (m:List (Int×Int)),a0Y G (l+1) at_→i0I G m→
 a0F prog 110 #[ptr a.maps,.int .i64 at_,.int .i64 l,.map (some b)] (RS W a s++ [b0L b a0J a0J m]) (a0T (.tuple #[]) (RS W a s++ [b0L b a0J a0J (e0V G (l+1) at_ m)]))
theorem z0I (W:World) (a:Ad) (s:St) (G:Gh) (P:List Int) (hi:Inv s G P) (l:Nat) (hl:l<3) (ih: ∀m,l=m+1→v0B W a s G m):v0B W a s G l:=by
 intro at_ b m hk hm
 have hgl:=hi.atMost
 have hml:=hm.len
 have hmv:=hm.sb.val at_
 by_cases hd:at_=0∨0<(a0E at_ m).getD 0
 ·rw[z0A,if_pos hd]
  refine ns ?_
  refine en func110 ntmps110 fun R w0=> ?_
  refine go 2 ?_
  by_cases h0:at_=0
  ·refine go 4 ?_
   refine c0J rfl (wg rfl rfl rfl (wFT (by simpa using h0))) ?_
   refine c0J rfl (wg rfl rfl rfl (wFT (by simpa using h0))) ?_
   refine c0J rfl (wg rfl rfl rfl (wFT (by simpa using h0))) ?_
   refine c0J rfl (wg rfl rfl rfl (wFT (by simpa using h0))) ?_
   refine a0D (i0B rfl (by simpa using h0) rfl) ?_
   refine go 3 ?_
   exact rG
  ·refine go 4 ?_
   refine c0R (d0V rfl) (wg rfl rfl rfl (wFF (by simpa using h0))) ?_
   refine c0R (d0V rfl) (wg rfl rfl rfl (wFF (by simpa using h0))) ?_
   refine c0R (f0P (ek:=a0J) (ev:=a0J) (k:=at_) d0I.o i0T (tt fun _=>trivial) trivial Zr.o rfl rfl (show Fnd _ (b0L b a0J a0J m) _ from gFd) f0J) (wg rfl rfl rfl (wFF (by simpa using h0))) ?_
   refine c0R (j1K rfl rfl) (wg rfl rfl rfl (wFF (by simpa using h0))) ?_
   refine a0D (i0W rfl (by simpa using h0) rfl) ?_
   refine go 2 ?_
   refine d0R rfl (by simpa using hd.resolve_left h0) ?_
   exact rG
 ·have h0: ¬at_=0:=fun h=>hd (.inl h)
  have hns:at_ ∉ l0W m:=fun h=>hd (.inr (hm.in_.2 h))
  obtain⟨hpos,o,ho,hlo⟩:=hi.kidOb hk h0
  have hf:=hm.first (by rw[ho];rfl) hns
  obtain⟨h8,hkk⟩:=hi.kids hk
  have kl:=q0N W a s at_ l
  rw[hi.loadK hk]at kl
  have kload:=kl.ran_ok
  have hln:o0C {kids:=b0E G at_,sum:=d0N G at_} :=(h0U (hi.loadK hk)).2
  rw[z0A,if_neg hd]
  refine ns ?_
  refine en func110 ntmps110 fun R w0=> ?_
  refine go 6 ?_
  refine c0R (d0V rfl) (wg rfl rfl rfl (wFF (by simpa using h0))) ?_
  refine c0R (d0V rfl) (wg rfl rfl rfl (wFF (by simpa using h0))) ?_
  refine c0R (f0P (ek:=a0J) (ev:=a0J) (k:=at_) d0I.o i0T (tt fun _=>trivial) trivial Zr.o rfl rfl (show Fnd _ (b0L b a0J a0J m) _ from gFd) f0J) (wg rfl rfl rfl (wFF (by simpa using h0))) ?_
  refine c0R (j1K rfl rfl) (wg rfl rfl rfl (wFF (by simpa using h0))) ?_
  refine a0D (i0W rfl (by simpa using h0) rfl) ?_
  refine go 2 ?_
  refine b0R rfl (by simpa using fun h=>hd (.inr h)) ?_
  refine go 6 ?_
  refine a0D (f0P (ek:=a0J) (ev:=a0J) (k:=at_) d0I.o i0T (tt fun _=>trivial) trivial Zr.o rfl rfl (show Fnd _ (b0L b a0J a0J m) _ from gFd) f0J) ?_
  refine go 1 ?_
  refine n0G (ek:=a0J) (ev:=a0J) (k:=at_) (v:=(a0E at_ m).getD 0+1) d0I.o i0T (tt fun _=>trivial) trivial rfl rfl rfl (show Fnd _ (b0L b a0J a0J m) _ from gFd) ?_
  refine go 1 ?_
  rw[show b0T at_ ((a0E at_ m).getD 0+1) m=k0Y at_ m from rfl]
  refine cg 6 (kload) ?_
  refine a0D (o0Q (v:=((b0E G at_).map a0J).toArray) F.fa182_1 rfl (i1W hln)) ?_
  refine go 4 ?_
  refine a0V (X:= {y:Nat×List (Int×Int) // y.1≤8∧i0I G y.2∧(b0E G at_).foldl (fun m k=>e0V G l k m) (k0Y at_ m)=((b0E G at_).drop y.1).foldl (fun m k=>e0V G l k m) y.2}) (fun y=> [(0,ptr a.maps),(2,.int .i64 l),(3,.map (some b)),(28,.agg ((b0E G at_).map a0J).toArray),(29,.int .i64 y.1.1)]) (fun y=>RS W a s++ [b0L b a0J a0J y.1.2,R]) (fun y=>8-y.1.1) ⟨(0,k0Y at_ m),Nat.zero_le 8,hf.seen (by omega),rfl⟩ gSu gSp ?_
  rintro⟨⟨i,n⟩,hi8,hn,he⟩ m0 hm0
  try simp only at hm0
  try dsimp only
  simp only at hi8 hn he
  refine ns ?_
  refine go 6 ?_
  refine a0P rfl (fun hb30=> ?_) (fun hb30=> ?_)
  ·have hil:i<(b0E G at_).length:=by have:=of_decide_eq_true hb30;omega
   obtain⟨k,hkd⟩: ∃k,k=(b0E G at_)[i]:=⟨_,rfl⟩
   have hki:a0Y G l k:=hkd▸hkk _ (List.getElem_mem hil)
   rw[List.drop_eq_getElem_cons hil,List.foldl_cons,←hkd]at he
   have hok2:=(hi.reach_ok l k n hki hn).1
   refine go 6 ?_
   refine a0D (p0V (v:=i8 k) Tar.o Sc.o rfl rfl (by omega) (by rw[hkd];exact j0I a0J _ i _ hil (by omega))) ?_
   refine go 4 ?_
   by_cases hl0:l=0
   ·refine go 7 ?_
    subst hl0
    by_cases hkp:0<k
    ·by_cases hks:0<(a0E k n).getD 0
     ·refine go 4 ?_
      refine c0R (d0V rfl) (wg rfl rfl rfl (wTT (by simpa using hkp))) ?_
      refine c0R (d0V rfl) (wg rfl rfl rfl (wTT (by simpa using hkp))) ?_
      refine c0R (f0P (ek:=a0J) (ev:=a0J) (k:=k) d0I.o i0T (tt fun _=>trivial) trivial Zr.o rfl rfl (show Fnd _ (b0L b a0J a0J n) _ from gFd) f0J) (wg rfl rfl rfl (wTT (by simpa using hkp))) ?_
      refine c0R (a1G rfl rfl) (wg rfl rfl rfl (wTT (by simpa using hkp))) ?_
      refine a0D (i0B rfl (by simpa using hkp) rfl) ?_
      refine go 9 ?_
      exact rd idh (⟨(i+1,n),by(show i+1≤8);omega,hn,by rw[he,g1X (.inr hks)]⟩)
     ·refine go 4 ?_
      refine c0R (d0V rfl) (wg rfl rfl rfl (wTT (by simpa using hkp))) ?_
      refine c0R (d0V rfl) (wg rfl rfl rfl (wTT (by simpa using hkp))) ?_
      refine c0R (f0P (ek:=a0J) (ev:=a0J) (k:=k) d0I.o i0T (tt fun _=>trivial) trivial Zr.o rfl rfl (show Fnd _ (b0L b a0J a0J n) _ from gFd) f0J) (wg rfl rfl rfl (wTT (by simpa using hkp))) ?_
      refine c0R (a1G rfl rfl) (wg rfl rfl rfl (wTT (by simpa using hkp))) ?_
      refine a0D (i0B rfl (by simpa using hkp) rfl) ?_
      refine go 2 ?_
      refine d0R rfl (by have:=(hn.sb.val k).1;simp;omega) ?_
      refine go 1 ?_
      obtain⟨d,ats,hd'⟩:=hki.resolve_left (by omega)
      have hp:=f2F W a s k (m0R d ats) (by omega) (hi.xhead hd')
      rw[show(m0R d ats).at_=ats from rfl]at hp
      obtain⟨ps,hps⟩: ∃ps,ps=ats.filter (0< ·):=⟨_,rfl⟩
      rw[←hps]at hp
      have hnl:=hn.len
      have hnv:=hn.sb.val k
      have hpin: ∀x∈ps,(a0E x G).isSome=true:=fun x hx=>by rw[hps]at hx;obtain⟨k1,k2⟩:=List.mem_filter.1 hx;obtain⟨_,b,hb⟩:=hi.partOf hd' k1 (by simp at k2;omega);rw[hb];rfl
      have hpl:ps.length≤4:=by have h1:=List.length_filter_le (fun x:Int=>decide (0<x)) ats;have h2:=(hi.typ k _ hd').2.2.1;rw[hps];omega
      have hre:=hi.reach0 hd' hks
      rw[←hps]at hre
      have hfk:=hn.first (by rw[hd'];rfl) (fun h=>hks (hn.in_.2 h))
      refine go 3 ?_
      refine a0D (f0P (ek:=a0J) (ev:=a0J) (k:=k) d0I.o i0T (tt fun _=>trivial) trivial Zr.o rfl rfl (show Fnd _ (b0L b a0J a0J n) _ from gFd) f0J) ?_
      refine go 1 ?_
      refine n0G (ek:=a0J) (ev:=a0J) (k:=k) (v:=(a0E k n).getD 0+1) d0I.o i0T (tt fun _=>trivial) trivial rfl rfl rfl (show Fnd _ (b0L b a0J a0J n) _ from gFd) ?_
      refine go 1 ?_
      rw[show b0T k ((a0E k n).getD 0+1) n=k0Y k n from rfl]
      refine ce 8 (hp) ?_
      rintro v _
      refine ns ?_
      refine a0D (h0Y (e:=3) (n:=ps.length) (size:=1) (xs:=j0P ps) (v:=v) Tsl.o rfl gFd) ?_
      refine go 4 ?_
      refine o0L (e:=3) (n:=ps.length) (size:=1) (xs:=j0P ps) (v:=v) gFd fun pp cap hv hcap _=> ?_
      subst hv
      refine a0V (X:= {y:Nat×List (Int×Int) // y.1≤ps.length∧SB G (5*n.length+1+y.1) (n.length+1) y.2∧ps.foldl (fun m k=>k0Y k m) (k0Y k n)=(ps.drop y.1).foldl (fun m k=>k0Y k m) y.2}) (fun y=> [(0,ptr a.maps),(2,.int .i64 (0:Nat)),(3,.map (some b)),(28,.agg ((b0E G at_).map a0J).toArray),(29,.int .i64 i),(57,.slice pp ps.length cap),(58,.int .i64 ps.length),(59,.int .i64 y.1.1)]) (fun y=>RS W a s++ [b0L b a0J a0J y.1.2,b0H 3 1 (.slice pp ps.length cap) ps.length (j0P ps),R]) (fun y=>ps.length-y.1.1) ⟨(0,k0Y k n),Nat.zero_le _,by(show SB G (5*n.length+1+((0:Nat):Int)) _ _);rw[Int.natCast_zero,Int.add_zero];exact hfk,rfl⟩ gSu gSp ?_
      rintro⟨⟨j,q⟩,hj,hq,hqe⟩ m2 hm2
      try simp only at hm2
      try dsimp only
      simp only at hj hq hqe
      refine ns ?_
      refine go 6 ?_
      refine a0P rfl (fun hb60=> ?_) (fun hb60=> ?_)
      ·have hjl:j<ps.length:=by have:=of_decide_eq_true hb60;omega
       refine i0Y (e:=3) (n:=ps.length) (size:=1) (xs:=j0P ps) gFd (by omega) fun bv cv hv2 hc2=> ?_
       cases hv2
       have hqv:=hq.val ps[j]
       rw[List.drop_eq_getElem_cons hjl,List.foldl_cons]at hqe
       refine go 7 ?_
       refine a0D (a0U (e:=3) (xs:=j0P ps) Sc.o rfl gFd (j0I i8 ps j _ hjl (by omega))) ?_
       refine go 6 ?_
       refine a0D (f0P (ek:=a0J) (ev:=a0J) (k:=ps[j]) d0I.o i0T (tt fun _=>trivial) trivial Zr.o rfl rfl (show Fnd _ (b0L b a0J a0J q) _ from gFd) f0J) ?_
       refine go 1 ?_
       refine n0G (ek:=a0J) (ev:=a0J) (k:=ps[j]) (v:=(a0E ps[j] q).getD 0+1) d0I.o i0T (tt fun _=>trivial) trivial rfl rfl rfl (show Fnd _ (b0L b a0J a0J q) _ from gFd) ?_
       refine go 1 ?_
       rw[show b0T ps[j] ((a0E ps[j] q).getD 0+1) q=k0Y ps[j] q from rfl]
       refine go 5 ?_
       exact rd idh (⟨(j+1,k0Y ps[j] q),hjl,by have h:=hq.see (hpin _ (List.getElem_mem hjl));rw[show 5*(n.length:Int)+1+((j+1:Nat):Int)=5*(n.length:Int)+1+(j:Int)+1 by omega];exact h,hqe⟩)
      ·obtain rfl:j=ps.length:=by have:=of_decide_eq_false hb60;omega
       rw[List.drop_length]at hqe
       refine go 6 ?_
       exact rd idh (⟨(i+1,q),by(show i+1≤8);omega,hq.seen (by omega),by rw[he,hre,hqe];rfl⟩)
    ·refine go 4 ?_
     refine c0J rfl (wg rfl rfl rfl (wTF (by simpa using hkp))) ?_
     refine c0J rfl (wg rfl rfl rfl (wTF (by simpa using hkp))) ?_
     refine c0J rfl (wg rfl rfl rfl (wTF (by simpa using hkp))) ?_
     refine c0J rfl (wg rfl rfl rfl (wTF (by simpa using hkp))) ?_
     refine a0D (i0W rfl (by simpa using hkp) rfl) ?_
     refine go 9 ?_
     exact rd idh (⟨(i+1,n),by(show i+1≤8);omega,hn,by rw[he,g1X (.inl (by omega))]⟩)
   ·refine go 6 ?_
    obtain⟨l',rfl⟩: ∃l',l=l'+1:=⟨l-1,by omega⟩
    refine go 5 ?_
    rw[show((l'+1:Nat):Int)-1=((l':Nat):Int) by omega]
    refine cg 1 (ih l' rfl k b n hki hn) ?_
    refine go 6 ?_
    exact rd idh (⟨(i+1,e0V G (l'+1) k n),by(show i+1≤8);omega,hok2,he⟩)
  ·obtain rfl:i=8:=by have:=of_decide_eq_false hb30;omega
   rw[List.drop_eq_nil_of_le (by omega)]at he
   rw[he]
   refine go 1 ?_
   refine d0W rfl rfl gSp
theorem f2G (W:World) (a:Ad) (s:St) (G:Gh) (P:List Int) (hi:Inv s G P):v0B W a s G 2:=by
 have d0:v0B W a s G 0:=z0I W a s G P hi 0 (by decide) fun k h=>by omega
 have d1:v0B W a s G 1:=z0I W a s G P hi 1 (by decide) fun k h=>(by obtain rfl:k=0:=(by omega);exact d0)
 exact z0I W a s G P hi 2 (by decide) fun k h=>(by obtain rfl:k=1:=(by omega);exact d1)
theorem b2E {k:Int} : ∀ {m:List (Int×Int)},a0E k m=none→b0C k m=m
 | [],_=>rfl
 | (j,u)::m,h=>by
  rw[d0H]at h
  split at h
  ·cases h
  ·rename_i e;simp only[b0C,if_neg e,b2E h]
theorem p2M {G:Gh} {m:List (Int×Int)} (h:i0I G m) (hz:a0E 0 G=none):b0C 0 m=m:=b2E (by
 cases e:a0E 0 m with
 |none=>rfl
 |some v=>have:=h.held _ ((e0Q h.ok).1 e);rw[hz]at this;cases this)
theorem q1M (W:World) (a:Ad) (s:St) (G:Gh) (P:List Int) (hi:Inv s G P) (roots:List Int) (hk: ∀r∈roots,a0Y G 3 r) (hP: ∀p∈P,p∈roots) (v:Value) (hrl:roots.length≤1000):
 a0F prog 56 #[ptr a.maps,v] (RS W a s++ [b0H 3 1 v roots.length (j0P roots)])
  (b0N (fun x:Value×List Int=>x.2.length=s.g.count 1) (fun x=>x.1) (fun x=>RS W a s++ [b0H 3 1 v roots.length (j0P roots),b0H 3 1 x.1 x.2.length (j0P x.2)])):=by
 obtain⟨hall,hcnt⟩:=hi.reachAll hk hP
 have hgl:=hi.atMost
 have hsl:=hall.len
 have h0:i0I G []:=⟨List.nodup_nil,fun p hp=>(by cases hp),fun p hp=>(by cases hp)⟩
 refine ns ?_
 refine en func56 ntmps56 fun R w0=> ?_
 refine o0L (e:=3) (n:=roots.length) (size:=1) (xs:=j0P roots) (v:=v) gFd fun pp cap hv hcap _=> ?_
 subst hv
 refine go 7 ?_
 refine(q0T (fun b8=> ?_))
 refine go 5 ?_
 refine b0V (fun w h=>t0M a0J a0J ((show Fnd _ (pts b8 _) _ from gFd).sat h)) ?_
 refine go 7 ?_
 refine a0V (X:= {y:Nat×List (Int×Int) // y.1≤roots.length∧i0I G y.2∧roots.foldl (fun m r=>e0V G 3 r m) []=(roots.drop y.1).foldl (fun m r=>e0V G 3 r m) y.2}) (fun y=> [(0,ptr a.maps),(5,.map (some b8)),(9,.slice pp roots.length cap),(10,.int .i64 roots.length),(11,.int .i64 y.1.1)]) (fun y=>RS W a s++ [b0L b8 a0J a0J y.1.2,b0H 3 1 (.slice pp roots.length cap) roots.length (j0P roots),R]) (fun y=>roots.length-y.1.1) ⟨(0,[]),Nat.zero_le _,h0,rfl⟩ gSu gSp ?_
 rintro⟨⟨i,n⟩,hil0,hn,he⟩ m0 hm0
 try simp only at hm0
 try dsimp only
 simp only at hil0 hn he
 refine ns ?_
 refine go 6 ?_
 refine a0P rfl (fun hb12=> ?_) (fun hb12=> ?_)
 ·have hil:i<roots.length:=by have:=of_decide_eq_true hb12;omega
  refine i0Y (e:=3) (n:=roots.length) (size:=1) (xs:=j0P roots) gFd (by omega) fun bv cv hv2 hc2=> ?_
  cases hv2
  have hri:=hk _ (List.getElem_mem hil)
  rw[List.drop_eq_getElem_cons hil,List.foldl_cons]at he
  refine go 7 ?_
  refine a0D (a0U (e:=3) (xs:=j0P roots) Sc.o rfl gFd (j0I i8 roots i _ hil (by omega))) ?_
  refine cg 7 (f2G W a s G P hi roots[i] b8 n hri hn) ?_
  refine go 6 ?_
  exact rd idh (⟨(i+1,e0V G 3 roots[i] n),hil,(hi.reach_ok 3 _ n hri hn).1,he⟩)
 ·obtain rfl:i=roots.length:=by have:=of_decide_eq_false hb12;omega
  rw[List.drop_length]at he
  have hnl:n.length=s.g.count 1:=by rw[←hcnt,he];rfl
  have hn2:=hn.len
  refine go 5 ?_
  refine q0B (ek:=a0J) (ev:=a0J) (k:=0) d0I.o i0T (tt fun _=>trivial) trivial rfl rfl (show Fnd _ (b0L b8 a0J a0J n) _ from gFd) ?_
  rw[p2M hn hi.zero]
  refine ce 5 (w2S b8) ?_
  rintro bk _
  refine ns ?_
  refine ce 0 (p2K (ev:=a0J) b8 bk n (by omega)) ?_
  rintro⟨u,xs⟩ hx
  refine ns ?_
  refine go 3 ?_
  exact rE idh (u,xs) (hx.trans hnl)
end Go.Proofs.Q
namespace Go.Proofs.Q
open Go Go.Sl Tryz
instance:Fl prog 24 4 4:=⟨kr⟩
instance:Hb prog 18:=⟨kr⟩
instance:Hb prog 21:=⟨kr⟩
instance:Hb prog 22:=⟨kr⟩
instance:Hb prog 23:=⟨kr⟩
instance:Hb prog 74:=⟨kr⟩
instance:Hb prog 75:=⟨kr⟩
instance:Hb prog 76:=⟨kr⟩
instance:Hb prog 77:=⟨kr⟩
instance:Hb prog 78:=⟨kr⟩
instance:Hb prog 101:=⟨kr⟩
instance:Hb prog 102:=⟨kr⟩
instance:Hb prog 125:=⟨kr⟩
instance:Hb prog 126:=⟨kr⟩
instance:Hb prog 145:=⟨kr⟩
instance:Hb prog 174:=⟨kr⟩
instance:Hb prog 175:=⟨kr⟩
instance:Ag prog 277 2:=⟨kr⟩
instance:Fl prog 34 2 2:=⟨kr⟩
instance:Hb prog 208:=⟨kr⟩
instance:Pl prog 277 ([(0,1),(1,1)],.agg #[.slice none 0 0,.int .i64 0]):=⟨kr⟩
instance:Sz prog 277 2:=⟨kr⟩
instance:Zr prog 277 (.agg #[.slice none 0 0,.int .i64 0]):=⟨kr⟩
instance:Hb prog 103:=⟨kr⟩
instance:Sz prog 32 1:=⟨kr⟩
instance:Ttb prog 42 64:=⟨kr⟩
instance:Hb prog 100:=⟨kr⟩
instance:Pl prog 42 ([(0,1),(1,1),(2,1),(3,1),(4,1),(5,1)],.agg #[.int .i64 0,.int .i64 0,.bool false,.int .i64 0,.int .i64 0,.slice none 0 0]):=⟨kr⟩
end Go.Proofs.Q
namespace Go.Proofs.Q
open Go.Sl Go.Sb Tryz
abbrev x0X (H:b0A) (P:Rp) (x:b0A×Rx):Prop:=(∀p∈H,p∈x.1)∧c0T x.1 x.2∧er x.2=P
theorem w2W (c:Rx) (lv:Value) (i:Nat) (v:Vx):er {c with lv:=lv,l:=c.l.set i v} = {er c with l:=(er c).l.set i v.v} :=by
 unfold er;simp only[List.map_set]
theorem q0Q {H:b0A} {v:Vx} (hv:m0Z H v): ∀u∈a0S v,u.oneCell'=true:=fun u hu=>w0T (l:= [v]) (fun x hx=>by rw[List.mem_singleton.1 hx];exact hv) u (by simpa using hu)
theorem w2X {H:b0A} {l:List Vx} {i:Nat} {v:Vx} (h: ∀x∈l,m0Z H x) (hv:m0Z H v): ∀x∈l.set i v,m0Z H x:=fun x hx=>by
 rcases List.mem_or_eq_of_mem_set hx with h1|rfl
 ·exact h x h1
 ·exact hv
theorem c1J (H:b0A) (c:Rx) (i:Nat) (v:Vx) (hc:c0T H c) (hv:m0Z H v) (hi:i<c.l.length):a0F prog 126 #[e0R c,.int .i64 i,z0H v] [b0Z H]
 (b0N (x0X H {er c with l:=(er c).l.set i v.v}) (fun x=>e0R x.2) (fun x=> [b0Z x.1])):=by
 obtain⟨p,cap,hlv,hcap⟩:=d0Q hc.vols
 have hfew:=hc.few
 have hrow:=hc.vols
 rw[hlv]at hrow
 have hfl:=h0S t0Y c.l
 have hi6:0+((i:Nat):Int).toNat*6+6≤(c.l.flatMap a0S).length:=by rw[hfl];omega
 refine en func126 ntmps126 fun R w0=> ?_
 try simp only[e0R,a0H,z0H]
 rw[hlv]
 refine go 2 ?_
 refine bx fun b3=> ?_
 refine bx fun b5=> ?_
 refine al fun b6=> ?_
 refine go 4 ?_
 refine bl fun b7=> ?_
 refine e0K (fun w h=>n0U 6 h) ?_
 refine go 2 ?_
 refine(c0Z (news:=c.l.flatMap a0S) Tsl.o Ttb.o Zr.o rfl rfl rfl gFd (a1U Tsl.o hrow gFd (w0T hc.maps)) (by simp only[maxLen];omega) (by omega) (fun v10 hv10=> ?_))
 rw[show 0+c.l.length=c.l.length from Nat.zero_add _,List.nil_append]
 refine go 5 ?_
 refine i0Y (e:=42) gFd (by omega) fun bw capw hvw hcapw=> ?_
 refine go 1 ?_
 subst hvw
 refine go 5 ?_
 refine m1M (vs:=a0S v) (xs':=(c.l.set i v).flatMap a0S) Sz.o rfl rfl rfl (q0Q hv) gFd hi6 (by rw[show 0+((i:Nat):Int).toNat*6=i*6 by omega];exact o1E t0Y v hi) ?_
 refine go 5 ?_
 skip
 refine(a0M Sz.o rfl rfl (by first|rfl|simp) (by simp[Value.oneCell']) (by simp[Value.cells]) (by simp[i0X,Value.cells]<;>rfl) ?_)
 refine go 2 ?_
 refine s0U (show Fnd _ (b0H 42 6 (.slice (some ⟨bw,0,none⟩) c.l.length capw) c.l.length ((c.l.set i v).flatMap a0S)) _ from gFd) (show Fnd _ (b0Z H) _ from gFd) fun H' hs hr=> ?_
 exact c0N (x:=((H',{c with lv:= .slice (some ⟨bw,0,none⟩) c.l.length capw,l:=c.l.set i v}):b0A×Rx)) ⟨hs,⟨(by show i0E _ _ _ _ (c.l.set i v).length _;rw[List.length_set];exact hr),fun x hx=>w2X (fun x hx=>(hc.maps x hx).more hs) (hv.more hs) x hx,by simpa using hfew⟩,w2W c _ i v⟩ idh (RV.agg Ag.o rfl (by simp) (by rfl) RV.nil) rfl gSp
end Go.Proofs.Q

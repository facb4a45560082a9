/- Part of the proof; no statement of its own. -/
import Derived.Test.YtpinhnikemamjaaGreatDoorS18
import Derived.Test.YtpinhnikemamjaaGreatDoorS29
import Derived.Test.YtpinhnikemamjaaGreatDoorS30
import Derived.Test.YtpinhnikemamjaaGreatDoorS28
import Derived.Test.YtpinhnikemamjaaGreatDoorS16
import Derived.Test.YtpinhnikemamjaaGreatDoorS26
import Derived.Test.YtpinhnikemamjaaGreatDoorS23
import Derived.Test.YtpinhnikemamjaaGreatDoorS17
import Derived.Test.YtpinhnikemamjaaGreatDoorProg
import Derived.KernelRfl
import Derived.Test.YtpinhnikemamjaaGreatDoorS08
set_option linter.all false
set_option maxRecDepth 4000
set_option maxHeartbeats 4000000
attribute [local irreducible] Go.Sl.a0P Go.Sl.OW Go.Sl.CW Go.Sl.OS Go.Sl.OM Go.Sl.OMf Go.Sl.KM
namespace Go.Proofs.Q
open Go.Sl Go.Sb Tryz
theorem r1L (W:World) (a:Ad) (s:St) {C:Type} (r:Nat) (J Jx:C→a0E) (see:Nat×Int→C→Bool×C) (mu:C→Nat) (bd:Nat) (hmu: ∀x c,mu (see x c).2≤mu c+1) (hy:h2H r J Jx see mu bd): ∀level,level<3→f1Y W a s r J Jx see mu bd level
 |0,h=>i1F W a s r J Jx see mu bd hmu hy 0 h (fun m e=>by omega)
 |l+1,h=>i1F W a s r J Jx see mu bd hmu hy (l+1) h (fun m e=>by have e':m=l:=(Nat.succ.inj e).symm;rw[e'];exact r1L W a s r J Jx see mu bd hmu hy l (by omega))
abbrev u0Z (b:Nat) (a:Ad):a0E:=pts b (.cells #[ptr a.maps] 56 (0,0))
theorem m2U (W:World) (a:Ad) (s:St) (root:Int) (b0 b1:Nat) {C:Type} (r:Nat) (J Jx:C→a0E) (see:Nat×Int→C→Bool×C) (mu:C→Nat) (bd:Nat) (hmu: ∀x c,mu (see x c).2≤mu c+1) (hy:h2H r J Jx see mu bd) (c:C) (ys:List (Nat×Int)) (hv:lvs 2 0 root s=some ys) (hbd:mu c+ys.length≤bd):
 a0G prog 255 #[.func (.yield r) #[] #[],ptr b0,ptr b1] (RS W a s++ [u0Z b0 a,f0W b1 root,J c]) (a0T (.tuple #[]) (RS W a s++ [u0Z b0 a,f0W b1 root,JB J Jx (g0I see ys c)])):=by
 refine ns ?_;refine en func255 ntmps255 fun R w0=> ?_;refine cg 4 (r1L W a s r J Jx see mu bd hmu hy 2 (by omega) root 0 c ys hv hbd (by omega)) ?_;refine go 1 ?_;refine d0Q rfl rfl gSp
theorem r2O (a:Ad) (root:Int):a0G prog 205 #[ptr a.maps,.int .i64 root] [] (b0P (fun _:Nat×Nat=>True) (fun x=> .func (.func 255) #[] #[ptr x.1,ptr x.2]) (fun x=> [u0Z x.1 a,f0W x.2 root])):=by
 refine en func205 ntmps205 fun R w0=> ?_;refine go 2 ?_;refine bx fun b2=> ?_;refine bx fun b3=> ?_;refine go 9 ?_;exact rE idh ((b2,b3):Nat×Nat) trivial
abbrev w0W (x:Nat×Int):List Value:= [.int .i64 x.1,.int .i64 x.2]
abbrev lvA (b6 b7 b9 from_ upto:Nat) (out:List (Nat×Int)) (v:Value):List a0E:= [pts b9 (.cells #[v] 241 (0,0)),b0I 244 2 v out.length (out.flatMap w0W),f0W b6 from_,f0W b7 upto]
abbrev lvJ (b6 b7 b9 from_ upto l:Nat) (rec:Loop) (x:Option Code) (out:List (Nat×Int)):a0E:=ex fun v:Value=>b0E (pts l (.loop (j0B rec x))::lvA b6 b7 b9 from_ upto out v)
theorem p1H {b6 b7 b9 from_ upto l:Nat} {rec:Loop} {x:Option Code} {out:List (Nat×Int)} {w:World} {M:List a0E} (v:Value) (h:Sat w (pts l (.loop (j0B rec x))::(lvA b6 b7 b9 from_ upto out v++M))):Sat w (lvJ b6 b7 b9 from_ upto l rec x out::M):=g0K.2 ⟨v,b0M.2 h⟩
theorem m2V (from_ upto:Nat) (x:Nat×Int) (c:List (Nat×Int)):(d0L from_ upto x c).2.length≤c.length+1:=by unfold d0L;split<;>(try split)<;>simp
theorem a2E (W:World) (a:Ad) (s:St) (root:Int) (from_ upto:Nat) (ys:List (Nat×Int)) (hv:lvs 2 0 root s=some ys) (hyl:ys.length≤512):a0G prog 168 #[ptr a.maps,.int .i64 root,.int .i64 from_,.int .i64 upto] (RS W a s)
 (b0P (fun _:Value=>True) id (fun v=>RS W a s++ [b0I 244 2 v (g0I (d0L from_ upto) ys []).2.length ((g0I (d0L from_ upto) ys []).2.flatMap w0W)])):=by
 refine z0S func168 rfl ntmps168 rfl (fun R w0=> ?_);simp only[j0X,List.cons_append,List.nil_append];refine go 2 ?_;refine bx fun b6=> ?_;refine bx fun b7=> ?_;refine go 5 ?_;refine al fun b9=> ?_;refine go 4 ?_;refine b0U (fun w h=>f0E 244 2 w h) ?_;refine ce 3 (r2O a root) ?_;rintro⟨p0,p1⟩ _;refine ns ?_;refine go 3 ?_;refine i1V (X:=Bool×List (Nat×Int)) (ok:=fun p=>p=g0I (d0L from_ upto) ys []) (v:=fun _=> .tuple #[]) (jump:=fun p=>if p.1 then none else some (.exit 0)) (N:=fun p=>RS W a s++ [u0Z p0 a,f0W p1 root,ex fun v:Value=>b0E (lvA b6 b7 b9 from_ upto p.2 v)]) rfl Hb.o (show b0A _ (RS W a s++([u0Z p0 a,f0W p1 root]++lvA b6 b7 b9 from_ upto [] (.slice none 0 0))) _ from gSp) ?_ ?_ ?_
 ·intro l D fn tmps hsz hsl rec hrec;refine n1V (fun w F h=> ?_) (m2U W a s root p0 p1 l (lvJ b6 b7 b9 from_ upto l rec none) (lvJ b6 b7 b9 from_ upto l rec (some (.exit 0))) (d0L from_ upto) List.length 512 (m2V from_ upto) (fun x c hc=> ?_) [] ys hv (by simpa using hyl)) (fun e L hp=> ?_)
  ·simp only[List.cons_append,List.nil_append]at h ⊢;have h1:Sat w (b0E (pts l (.loop (j0B rec none))::lvA b6 b7 b9 from_ upto [] (.slice none 0 0))::(RS W a s++ [u0Z p0 a,f0W p1 root,F])):=b0M.2 (by simp only[List.cons_append,List.nil_append];subst hrec;exact h.re gSp);have h2:Sat w (lvJ b6 b7 b9 from_ upto l rec none []::(RS W a s++ [u0Z p0 a,f0W p1 root,F])):=g0K.2 ⟨_,h1⟩;simp only[List.cons_append,List.nil_append]at h2;exact h2.re gSp
  rotate_left
  ·obtain⟨rfl,rfl⟩:=hp;refine⟨_,⟨g0I (d0L from_ upto) ys [],rfl,rfl,rfl⟩,fun w F h=> ?_⟩
   revert h
   generalize g0I (d0L from_ upto) ys []=p;obtain⟨b,out⟩:=p;intro h;simp only[List.cons_append,List.nil_append]at h ⊢;cases b with
   |false=>
    rw[r2L rfl]at h;have h1:Sat w (lvJ b6 b7 b9 from_ upto l rec (some (.exit 0)) out::(RS W a s++ [u0Z p0 a,f0W p1 root,F])):=by simp only[List.cons_append,List.nil_append];exact h.re gSp
    obtain⟨v,h2⟩:=g0K.1 h1;have h3:=b0M.1 h2;simp only[List.cons_append,List.nil_append]at h3;have h4:Sat w (b0E (lvA b6 b7 b9 from_ upto out v)::(pts l (.loop (j0B rec (some (.exit 0))))::(RS W a s++ [u0Z p0 a,f0W p1 root,F]))):=b0M.2 (by simp only[List.cons_append,List.nil_append];exact h3.re gSp);have h5:Sat w ((ex fun v=>b0E (lvA b6 b7 b9 from_ upto out v))::(pts l (.loop (j0B rec (some (.exit 0))))::(RS W a s++ [u0Z p0 a,f0W p1 root,F]))):=g0K.2 ⟨v,h4⟩;simp only[List.cons_append,List.nil_append]at h5;exact h5.re gSp
   |true=>
    rw[r2K rfl]at h;have h1:Sat w (lvJ b6 b7 b9 from_ upto l rec none out::(RS W a s++ [u0Z p0 a,f0W p1 root,F])):=by simp only[List.cons_append,List.nil_append];exact h.re gSp
    obtain⟨v,h2⟩:=g0K.1 h1;have h3:=b0M.1 h2;simp only[List.cons_append,List.nil_append]at h3;have h4:Sat w (b0E (lvA b6 b7 b9 from_ upto out v)::(pts l (.loop (j0B rec none))::(RS W a s++ [u0Z p0 a,f0W p1 root,F]))):=b0M.2 (by simp only[List.cons_append,List.nil_append];exact h3.re gSp);have h5:Sat w ((ex fun v=>b0E (lvA b6 b7 b9 from_ upto out v))::(pts l (.loop (j0B rec none))::(RS W a s++ [u0Z p0 a,f0W p1 root,F]))):=g0K.2 ⟨v,h4⟩;simp only[List.cons_append,List.nil_append]at h5;exact h5.re gSp
  refine i1W fun v=> ?_;subst hrec;refine z0R rfl hsz hsl rfl (fun R2 w2=> ?_);refine ns ?_;skip;refine p0A (by repeat (first|exact p0C|exact v0N|apply q0O|apply p0B)) rfl ?_;refine al fun b10=> ?_;refine(a0M Sz.o rfl rfl (by first|rfl|simp) (by simp[Value.oneCell']) (by simp[Value.cells]) (by simp[j0I,Value.cells]<;>rfl) ?_);refine go 1 ?_;refine i1U rfl gFd ?_;refine i1T ?_;refine s1W ?_;refine s1W ?_;refine p0A (by repeat (first|exact p0C|exact v0N|apply q0O|apply p0B)) rfl ?_;refine go 5 ?_;refine n1T idh ?_;refine s2I rfl (fun hb18=> ?_) (fun hb18=> ?_)
  ·have hge:upto≤x.1:=by have h:=hb18;simp only[decide_eq_true_eq]at h;omega
   have hs:d0L from_ upto x c=(false,c):=by unfold d0L;rw[if_pos hge]
   rw[hs];refine t2G ?_;repeat (first|with_reducible refine m0I ?_|with_reducible refine q0P ?_|with_reducible refine n0X rfl ?_)
   refine d2V gFd (fun w h=>⟨_,⟨rfl,rfl⟩,p1H (M:= [R2]) v ?_⟩) rfl;simp only[List.cons_append,List.nil_append]at h ⊢;exact h.sub gSp
  ·have hge: ¬upto≤x.1:=by have h:=hb18;simp only[decide_eq_false_iff_not]at h;omega
   refine a2U ?_;refine n1T idh ?_;refine s1W ?_;refine p0A (by repeat (first|exact p0C|exact v0N|apply q0O|apply p0B)) rfl ?_;refine go 5 ?_;refine n1T idh ?_;refine s2I rfl (fun hb22=> ?_) (fun hb22=> ?_)
   ·have hs:d0L from_ upto x c=(true,c++ [x]):=by unfold d0L;rw[if_neg hge,if_pos (by have h:=hb22;simp only[decide_eq_true_eq]at h;omega)]
    rw[hs];refine p0A (by repeat (first|exact p0C|exact v0N|apply q0O|apply p0B)) rfl ?_;refine go 2 ?_;refine bl fun b25=> ?_;refine(d0E Tsl.o Ttb.o Zr.o rfl rfl rfl gFd (f0I Tsl.o (by simp;rfl) (by simp) (by simp[Value.oneCell'])) (by simp only[maxLen];omega) (by omega) (fun v26 hv26=> ?_));refine go 2 ?_;rw[show c.flatMap w0W++ [Value.int .i64 x.1,Value.int .i64 x.2]=(c++ [x]).flatMap w0W by simp,show c.length+1=(c++ [x]).length by simp];repeat (first|with_reducible refine m0I ?_|with_reducible refine q0P ?_|with_reducible refine n0X rfl ?_)
    refine y0X gFd (fun w h=>⟨_,⟨rfl,rfl⟩,p1H (M:= [R2]) v26 ?_⟩) rfl;simp only[List.cons_append,List.nil_append]at h ⊢;exact h.sub gSp
   ·have hs:d0L from_ upto x c=(true,c):=by unfold d0L;rw[if_neg hge,if_neg (by have h:=hb22;simp only[decide_eq_false_iff_not]at h;omega)]
    rw[hs];refine a2U ?_;repeat (first|with_reducible refine m0I ?_|with_reducible refine q0P ?_|with_reducible refine n0X rfl ?_)
    refine y0X gFd (fun w h=>⟨_,⟨rfl,rfl⟩,p1H (M:= [R2]) v ?_⟩) rfl;simp only[List.cons_append,List.nil_append]at h ⊢;exact h.sub gSp
 ·intro D x hx hj;subst hx;refine go 2 ?_;refine ns ?_;refine v0M (show Fnd _ (ex fun v:Value=>b0E (lvA b6 b7 b9 from_ upto (g0I (d0L from_ upto) ys []).2 v)) _ from gFd) fun v=> ?_;refine ns ?_;refine go 5 ?_;exact g1L idh rfl gSp ⟨v,trivial,rfl,rfl⟩
 ·intro D x k hx hj;subst hx;obtain rfl:k= .exit 0:=by split at hj<;>simp_all
  refine go 3 ?_;refine ns ?_;refine v0M (show Fnd _ (ex fun v:Value=>b0E (lvA b6 b7 b9 from_ upto (g0I (d0L from_ upto) ys []).2 v)) _ from gFd) fun v=> ?_;refine ns ?_;refine go 5 ?_;exact g1L idh rfl gSp ⟨v,trivial,rfl,rfl⟩
section
theorem y2S (b:Nat):a0G prog 91 #[.map (some b)] [] (b0P (fun _:Nat=>True) (fun x=> .func (.func 136) #[] #[ptr x]) (fun x=> [pts x (.cells #[.map (some b)] 57 (0,0))])):=by
 refine en func91 ntmps91 fun R w0=> ?_;refine go 2 ?_;refine bx fun b1=> ?_;refine go 9 ?_;exact rE idh b1 trivial
abbrev ksA (b2:Nat) (acc:List Int) (v:Value):List a0E:= [pts b2 (.cells #[v] 159 (0,0)),b0I 47 1 v acc.length (us acc)]
abbrev ksJ (b2 l:Nat) (rec:Loop) (acc:List Int):a0E:=ex fun v:Value=>b0E (pts l (.loop (j0B rec none))::ksA b2 acc v)
theorem d2B {b2 l:Nat} {rec:Loop} {acc:List Int} {w:World} {M:List a0E} (v:Value) (h:Sat w (pts l (.loop (j0B rec none))::(ksA b2 acc v++M))):Sat w (ksJ b2 l rec acc::M):=g0K.2 ⟨v,b0M.2 h⟩
section
variable {ν:Type} {ev:ν→Value}
theorem a2F (b b1:Nat) (m:List (Int×ν)) (hm:m.length≤1000):a0G prog 178 #[.slice none 0 0,.func (.func 136) #[] #[ptr b1]] [pts b1 (.cells #[.map (some b)] 57 (0,0)),b0K b e0J ev m]
 (b0P (fun x:Value×List Int=>x.2.Perm (m.map (·.1))) (fun x=>x.1) (fun x=> [b0I 47 1 x.1 x.2.length (us x.2),b0K b e0J ev m])):=by
 refine z0S func178 rfl ntmps178 rfl (fun R w0=> ?_);simp only[j0X,List.cons_append,List.nil_append];refine go 1 ?_;refine b0U (fun w h=>f0E 47 1 w h) ?_;refine go 1 ?_;refine bx fun b2=> ?_;refine go 10 ?_;refine i1V (X:=List Int) (ok:=fun acc=>acc.Perm (m.map (·.1))) (v:=fun _=> .tuple #[]) (jump:=fun _=>none) (N:=fun acc=> [b0K b e0J ev m,ex fun v:Value=>b0E (ksA b2 acc v)]) rfl Hb.o (show b0A _ ([pts b1 (.cells #[.map (some b)] 57 (0,0)),b0K b e0J ev m]++ksA b2 [] (.slice none 0 0)) _ from gSp) ?_ ?_ ?_
 ·intro l D fn tmps hsz hsl rec hrec;refine n1V (fun w F h=> ?_) (w2F (ev:=ev) l b1 b m (ksJ b2 l rec) (fun acc k hk=> ?_)) (fun e L hp=> ?_)
  ·simp only[List.cons_append,List.nil_append]at h ⊢;have h1:Sat w (pts l (.loop (j0B rec none))::(ksA b2 [] (.slice none 0 0)++ [pts b1 (.cells #[.map (some b)] 57 (0,0)),b0K b e0J ev m,F])):=by
    simp only[List.cons_append,List.nil_append,j0B,Option.isNone_none,if_true];rw[show({rec with state:= .ready,pending:=none} :Loop)=rec by rw[hrec]];exact h.re gSp
   exact d2B _ h1
  rotate_left
  ·obtain⟨acc,hacc,rfl,rfl⟩:=hp;refine⟨_,⟨acc,hacc,rfl,rfl⟩,fun w F h=> ?_⟩;simp only[List.cons_append,List.nil_append]at h ⊢;obtain⟨v,h2⟩:=g0K.1 h;have h3:=b0M.1 h2;simp only[List.cons_append,List.nil_append]at h3;have h4:Sat w (b0E (ksA b2 acc v)::(pts l (.loop (j0B rec none)):: [b0K b e0J ev m,F])):=b0M.2 (by simp only[List.cons_append,List.nil_append];exact h3.re gSp);have h5:Sat w ((ex fun v=>b0E (ksA b2 acc v))::(pts l (.loop (j0B rec none)):: [b0K b e0J ev m,F])):=g0K.2 ⟨v,h4⟩;exact h5.re gSp
  obtain⟨rst,hrst⟩:=hk;have hal:acc.length+1≤1000:=by have:=hrst.length_eq;simp at this;omega
  refine i1W fun v=> ?_;subst hrec;refine z0R rfl hsz hsl rfl (fun R2 w2=> ?_);refine ns ?_;skip;refine p0A (by repeat (first|exact p0C|exact v0N|apply q0O|apply p0B)) rfl ?_;refine go 2 ?_;refine i1U rfl gFd ?_;refine i1T ?_;refine p0A (by repeat (first|exact p0C|exact v0N|apply q0O|apply p0B)) rfl ?_;refine go 2 ?_;refine bl fun b10=> ?_;refine(d0E Tsl.o Ttb.o Zr.o rfl rfl rfl gFd (f0I Tsl.o (by simp;rfl) (by simp) (by simp[Value.oneCell'])) (by simp only[maxLen];omega) (by omega) (fun v11 hv11=> ?_));refine go 2 ?_;repeat (first|with_reducible refine m0I ?_|with_reducible refine q0P ?_|with_reducible refine n0X rfl ?_)
  refine y0X gFd (fun w h=>⟨_,⟨rfl,rfl⟩,d2B (M:= [R2]) v11 ?_⟩) rfl;simp only[List.cons_append,List.nil_append]at h ⊢;rw[show b0I 47 1 v11 (acc++ [k]).length (us (acc++ [k]))=b0I 47 1 v11 (acc.length+1) (us acc++ [u4 k]) by rw[List.length_append,us,List.map_append];rfl];exact h.sub gSp
 ·intro D x hx hj;skip;refine go 2 ?_;refine ns ?_;refine v0M (show Fnd _ (ex fun v:Value=>b0E (ksA b2 x v)) _ from gFd) fun v=> ?_;refine ns ?_;refine go 5 ?_;exact g1L idh rfl gSp ⟨(v,x),hx,rfl,rfl⟩
 ·intro D x k hx hj;cases hj
end
end
section
abbrev i8 (n:Int):Value:= .int .i64 n
abbrev j0W (xs:List Int):List Value:=xs.map i8
section
variable {ν:Type} {ev:ν→Value}
theorem w2N (l b1 b:Nat) (m:List (Int×ν)) (J:List Int→a0E) (hy: ∀acc k,(∃rest,(m.map (·.1)).Perm (acc++k::rest))→b1M prog l #[i8 k] [J acc] (fun e L'=>e= .returned (.bool true)∧L'= [J (acc++ [k])])):
 a0G prog 157 #[.func (.yield l) #[] #[],ptr b1] [J [],pts b1 (.cells #[.map (some b)] 89 (0,0)),b0K b a0H ev m]
  (b0P (fun acc:List Int=>acc.Perm (m.map (·.1))) (fun _=> .tuple #[]) (fun acc=> [J acc,b0K b a0H ev m])):=by
 refine en func157 ntmps157 fun R w0=> ?_;refine go 3 ?_;refine u1U (ek:=a0H) (ev:=ev) (m:=m) c0Y.o rfl gFd (fun r=> ?_);refine go 3 ?_;refine a0V (X:= {y:List Int×List (Int×ν)×Option (Int×ν) // (m.map (·.1)).Perm (y.1++y.2.1.map (·.1))}) (fun y=> [(0,.func (.yield l) #[] #[]),(5,ptr r)]) (fun y=> [J y.1.1,t0R r b a0H ev m y.1.2.1 y.1.2.2,R]) (fun y=>y.1.2.1.length) ⟨([],m,none),List.Perm.refl _⟩ gSu gSp ?_;rintro⟨⟨acc,todo,cur⟩,hp⟩ m0 hm0
 try simp only at hm0
 try dsimp only
 dsimp only at hp;refine go 2 ?_;refine b2U (ek:=a0H) (ev:=ev) rfl gFd (fun z todo' hz hn=> ?_);refine a0D (s2N rfl) ?_;refine go 3 ?_;refine a0O rfl (fun hb7=> ?_) (fun hb7=> ?_)
 ·obtain⟨k,rfl⟩:=Option.isSome_iff_exists.1 hb7;have hlen:todo.length=todo'.length+1:=by have:=hz.length_eq;simpa using this
  have hp2:(m.map (·.1)).Perm (acc++k.1::todo'.map (·.1)):=hp.trans (List.Perm.append_left _ (by simpa using hz.map (·.1)));refine go 5 ?_;refine a0D (b2V (ek:=a0H) (ev:=ev) rfl gFd) ?_;refine go 5 ?_;refine b1N ?_;refine u0G (d0H rfl) ?_;refine u0G (d0H rfl) ?_;refine i1S rfl rfl (hy acc k.1 ⟨_,hp2⟩) gSp ?_;refine ns ?_;refine u0G (v0A rfl) ?_;refine s1V ?_;refine go 3 ?_;exact rd idh (⟨(acc++ [k.1],todo',some k),by(show(m.map (·.1)).Perm (acc++ [k.1]++todo'.map (·.1)));rw[List.append_assoc];exact hp2⟩)
 ·refine go 1 ?_;have hz0:z=none:=by cases z with|none=>rfl|some _=>cases hb7
  have ht:=hn hz0;subst ht;have hp3:acc.Perm (m.map (·.1)):=(by simpa using hp:(m.map (·.1)).Perm acc).symm;refine b0F (fun w h=>u1T ((show Fnd _ (t0R r b a0H ev m todo' z) _ from gFd).sat h)) ?_;exact fE acc hp3
end
theorem y2T (b:Nat):a0G prog 112 #[.map (some b)] [] (b0P (fun _:Nat=>True) (fun x=> .func (.func 157) #[] #[ptr x]) (fun x=> [pts x (.cells #[.map (some b)] 89 (0,0))])):=by
 refine en func112 ntmps112 fun R w0=> ?_;refine go 2 ?_;refine bx fun b1=> ?_;refine go 9 ?_;exact rE idh b1 trivial
abbrev isA (b2:Nat) (acc:List Int) (v:Value):List a0E:= [pts b2 (.cells #[v] 90 (0,0)),b0I 3 1 v acc.length (j0W acc)]
abbrev isJ (b2 l:Nat) (rec:Loop) (acc:List Int):a0E:=ex fun v:Value=>b0E (pts l (.loop (j0B rec none))::isA b2 acc v)
theorem d2C {b2 l:Nat} {rec:Loop} {acc:List Int} {w:World} {M:List a0E} (v:Value) (h:Sat w (pts l (.loop (j0B rec none))::(isA b2 acc v++M))):Sat w (isJ b2 l rec acc::M):=g0K.2 ⟨v,b0M.2 h⟩
section
variable {ν:Type} {ev:ν→Value}
theorem a2G (b b1:Nat) (m:List (Int×ν)) (hm:m.length≤100000):a0G prog 190 #[.slice none 0 0,.func (.func 157) #[] #[ptr b1]] [pts b1 (.cells #[.map (some b)] 89 (0,0)),b0K b a0H ev m]
 (b0P (fun x:Value×List Int=>x.2.Perm (m.map (·.1))) (fun x=>x.1) (fun x=> [b0I 3 1 x.1 x.2.length (j0W x.2),b0K b a0H ev m])):=by
 refine z0S func190 rfl ntmps190 rfl (fun R w0=> ?_);simp only[j0X,List.cons_append,List.nil_append];refine go 1 ?_;refine b0U (fun w h=>f0E 3 1 w h) ?_;refine go 1 ?_;refine bx fun b2=> ?_;refine go 10 ?_;refine i1V (X:=List Int) (ok:=fun acc=>acc.Perm (m.map (·.1))) (v:=fun _=> .tuple #[]) (jump:=fun _=>none) (N:=fun acc=> [b0K b a0H ev m,ex fun v:Value=>b0E (isA b2 acc v)]) rfl Hb.o (show b0A _ ([pts b1 (.cells #[.map (some b)] 89 (0,0)),b0K b a0H ev m]++isA b2 [] (.slice none 0 0)) _ from gSp) ?_ ?_ ?_
 ·intro l D fn tmps hsz hsl rec hrec;refine n1V (fun w F h=> ?_) (w2N (ev:=ev) l b1 b m (isJ b2 l rec) (fun acc k hk=> ?_)) (fun e L hp=> ?_)
  ·simp only[List.cons_append,List.nil_append]at h ⊢;have h1:Sat w (pts l (.loop (j0B rec none))::(isA b2 [] (.slice none 0 0)++ [pts b1 (.cells #[.map (some b)] 89 (0,0)),b0K b a0H ev m,F])):=by
    simp only[List.cons_append,List.nil_append,j0B,Option.isNone_none,if_true];rw[show({rec with state:= .ready,pending:=none} :Loop)=rec by rw[hrec]];exact h.re gSp
   exact d2C _ h1
  rotate_left
  ·obtain⟨acc,hacc,rfl,rfl⟩:=hp;refine⟨_,⟨acc,hacc,rfl,rfl⟩,fun w F h=> ?_⟩;simp only[List.cons_append,List.nil_append]at h ⊢;obtain⟨v,h2⟩:=g0K.1 h;have h3:=b0M.1 h2;simp only[List.cons_append,List.nil_append]at h3;have h4:Sat w (b0E (isA b2 acc v)::(pts l (.loop (j0B rec none)):: [b0K b a0H ev m,F])):=b0M.2 (by simp only[List.cons_append,List.nil_append];exact h3.re gSp);have h5:Sat w ((ex fun v=>b0E (isA b2 acc v))::(pts l (.loop (j0B rec none)):: [b0K b a0H ev m,F])):=g0K.2 ⟨v,h4⟩;exact h5.re gSp
  obtain⟨rst,hrst⟩:=hk;have hal:acc.length+1≤100000:=by have:=hrst.length_eq;simp at this;omega
  refine i1W fun v=> ?_;subst hrec;refine z0R rfl hsz hsl rfl (fun R2 w2=> ?_);refine ns ?_;skip;refine p0A (by repeat (first|exact p0C|exact v0N|apply q0O|apply p0B)) rfl ?_;refine go 2 ?_;refine i1U rfl gFd ?_;refine i1T ?_;refine p0A (by repeat (first|exact p0C|exact v0N|apply q0O|apply p0B)) rfl ?_;refine go 2 ?_;refine bl fun b10=> ?_;refine(d0E Tsl.o Ttb.o Zr.o rfl rfl rfl gFd (f0I Tsl.o (by simp;rfl) (by simp) (by simp[Value.oneCell'])) (by simp only[maxLen];omega) (by omega) (fun v11 hv11=> ?_));refine go 2 ?_;repeat (first|with_reducible refine m0I ?_|with_reducible refine q0P ?_|with_reducible refine n0X rfl ?_)
  refine y0X gFd (fun w h=>⟨_,⟨rfl,rfl⟩,d2C (M:= [R2]) v11 ?_⟩) rfl;simp only[List.cons_append,List.nil_append]at h ⊢;rw[show b0I 3 1 v11 (acc++ [k]).length (j0W (acc++ [k]))=b0I 3 1 v11 (acc.length+1) (j0W acc++ [i8 k]) by rw[List.length_append,j0W,List.map_append];rfl];exact h.sub gSp
 ·intro D x hx hj;skip;refine go 2 ?_;refine ns ?_;refine v0M (show Fnd _ (ex fun v:Value=>b0E (isA b2 x v)) _ from gFd) fun v=> ?_;refine ns ?_;refine go 5 ?_;exact g1L idh rfl gSp ⟨(v,x),hx,rfl,rfl⟩
 ·intro D x k hx hj;cases hj
end
end
section
theorem m2W:a0G prog 210 #[.slice none 0 0,.int .i64 0,.int .i64 0] [] (a0T (.tuple #[]) []):=by
 refine en func210 ntmps210 fun R w0=> ?_;refine go 8 ?_;refine a0V (X:=Unit) (fun y=> [(0,.slice none 0 0),(1,.int .i64 0),(2,.int .i64 0),(6,.int .i64 1)]) (fun y=> [R]) (fun y=>0) () gSu gSp ?_;rintro⟨⟩ m0 hm0
 try simp only at hm0
 try dsimp only
 skip;refine go 10 ?_;refine d0Q rfl rfl gSp
theorem y2U:a0G prog 179 #[.slice none 0 0,.int .i64 0,.int .i64 0,.int .i64 0] [] (a0T (.tuple #[]) []):=by
 refine en func179 ntmps179 fun R w0=> ?_;refine go 11 ?_;refine a0V (X:=Unit) (fun y=> [(0,.slice none 0 0),(1,.int .i64 0),(2,.int .i64 0),(3,.int .i64 0),(8,.bool true),(9,.bool true)]) (fun y=> [R]) (fun y=>0) () gSu gSp ?_;rintro⟨⟩ m0 hm0
 try simp only at hm0
 try dsimp only
 skip;refine cg 22 (m2W) ?_;refine go 2 ?_;exact rG
theorem y2V (v:Value) (xs:List Int) (hn:xs.length≤16) (hnd:xs.Nodup):a0G prog 135 #[v] [b0I 47 1 v xs.length (us xs)]
 (b0P (fun ys:List Int=>ys.Perm xs∧ys.Pairwise (· < ·)) (fun _=> .tuple #[]) (fun ys=> [b0I 47 1 v xs.length (us ys)])):=by
 by_cases h0:xs.length=0
 ·obtain rfl:xs= []:=List.length_eq_zero_iff.1 h0;refine en func135 ntmps135 fun R w0=> ?_;refine y1W (e:=47) gFd (fun hv _=> ?_) (fun g cap hv hcap=> ?_)
  ·subst hv;refine cg 12 (s1H 0 (by omega)) ?_;refine cg 0 (y2U) ?_;refine go 1 ?_;exact fE [] ⟨List.Perm.refl _,List.Pairwise.nil⟩
  ·subst hv;refine cg 12 (s1H 0 (by omega)) ?_;refine ce 0 (s2Q g 0 cap (by omega) 1 0 0 0 [] rfl (by omega) (by omega) (by omega) (by omega) (by omega) hnd (by omega)) ?_;rintro ys ⟨h1,h2⟩;refine ns ?_;refine go 1 ?_;exact fE ys ⟨h1.perm,by rw[h1.perm.eq_nil];exact List.Pairwise.nil⟩
 ·obtain⟨n,hn2⟩: ∃n,n=xs.length:=⟨_,rfl⟩;rw[←hn2]at hn h0 ⊢;have hb:=p1D hn;have hb12:n≤r0C n+12:=by rcases le16 hn with rfl|rfl|rfl|rfl|rfl|rfl|rfl|rfl|rfl|rfl|rfl|rfl|rfl|rfl|rfl|rfl|rfl<;>decide
  refine en func135 ntmps135 fun R w0=> ?_;refine i0T (e:=47) gFd (by omega) fun g cap hv hcap=> ?_;subst hv;refine go 12 ?_;rw[show IntKind.u64.wrap (n:Int)=(n:Int)from e0P .u64 _ (by omega) (by show(n:Int)<9223372036854775808;omega)];refine cg 0 (s1H n hn) ?_;refine ce 0 (s2Q g n cap hn (n+1) 0 n (r0C n) xs hn2.symm (by omega) (by omega) (by omega) (by omega) (by omega) hnd (fun i h=>absurd h (by omega))) ?_;rintro ys ⟨h1,h2⟩;refine ns ?_;refine go 1 ?_;exact fE ys ⟨h1.perm,Srt.list (by rw[h1.len,←hn2];exact h2)⟩
section
variable {ν:Type} {ev:ν→Value}
theorem m2X (b b1:Nat) (m:List (Int×ν)) (hm:m.length≤1000):a0G prog 134 #[.func (.func 136) #[] #[ptr b1]] [pts b1 (.cells #[.map (some b)] 57 (0,0)),b0K b e0J ev m]
 (b0P (fun x:Value×List Int=>x.2.Perm (m.map (·.1))) (fun x=>x.1) (fun x=> [b0I 47 1 x.1 x.2.length (us x.2),b0K b e0J ev m])):=by
 refine en func134 ntmps134 fun R w0=> ?_;refine ce 8 (a2F b b1 m hm) ?_;rintro x hx;refine ns ?_;refine go 3 ?_;exact rE idh x hx
theorem r2P (b b1:Nat) (m:List (Int×ν)) (hm:m.length≤16) (hk:mok m):a0G prog 90 #[.func (.func 136) #[] #[ptr b1]] [pts b1 (.cells #[.map (some b)] 57 (0,0)),b0K b e0J ev m]
 (b0P (fun x:Value×List Int=>x.2.Perm (m.map (·.1))∧x.2.Pairwise (· < ·)) (fun x=>x.1) (fun x=> [b0I 47 1 x.1 x.2.length (us x.2),b0K b e0J ev m])):=by
 refine en func90 ntmps90 fun R w0=> ?_;refine ce 8 (m2X b b1 m (by omega)) ?_;rintro⟨v,xs⟩ hx;refine ns ?_;dsimp only at hx ⊢;have hl:xs.length≤16:=by have:=hx.length_eq;rw[List.length_map]at this;omega
 refine ce 6 (y2V v xs hl (hx.nodup_iff.2 hk)) ?_;rintro ys ⟨h1,h2⟩;refine ns ?_;refine go 7 ?_;rw[show xs.length=ys.length from h1.length_eq.symm];refine go 1 ?_;exact rE idh (v,ys) ⟨h1.trans hx,h2⟩
theorem m2Y (b b1:Nat) (m:List (Int×ν)) (hm:m.length≤100000):a0G prog 155 #[.func (.func 157) #[] #[ptr b1]] [pts b1 (.cells #[.map (some b)] 89 (0,0)),b0K b a0H ev m]
 (b0P (fun x:Value×List Int=>x.2.Perm (m.map (·.1))) (fun x=>x.1) (fun x=> [b0I 3 1 x.1 x.2.length (j0W x.2),b0K b a0H ev m])):=by
 refine en func155 ntmps155 fun R w0=> ?_;refine ce 8 (a2G b b1 m hm) ?_;rintro x hx;refine ns ?_;refine go 3 ?_;exact rE idh x hx
theorem r2Q (b b1:Nat) (m:List (Int×ν)) (hm:m.length≤100000):a0G prog 111 #[.func (.func 157) #[] #[ptr b1]] [pts b1 (.cells #[.map (some b)] 89 (0,0)),b0K b a0H ev m]
 (b0P (fun x:Value×List Int=>x.2.length=m.length) (fun x=>x.1) (fun x=> [b0I 3 1 x.1 x.2.length (j0W x.2),b0K b a0H ev m])):=by
 refine en func111 ntmps111 fun R w0=> ?_;refine ce 8 (m2Y b b1 m (by omega)) ?_;rintro⟨v,xs⟩ hx;refine ns ?_;dsimp only at hx ⊢;have hl:xs.length=m.length:=by have:=hx.length_eq;rw[List.length_map]at this;exact this
 refine ce 6 (k2A (e:=3) Tryz.slices_Sort_int Tryz.slices_Sort_int_none v xs (by omega)) ?_;rintro ys h1;refine ns ?_;refine go 7 ?_;rw[show xs.length=ys.length from h1.symm];refine go 1 ?_;exact rE idh (v,ys) (h1.trans hl)
end
end
abbrev s2R (s:St) (k:Int):Ent:=(a0C k s.vols).getD g0L
abbrev a1H (s:St) (k:Int):List Value:=f0U (s2R s k)
theorem g1A (a:Ad) (s:St) (hm:s.vols.length≤16) (hk:mok s.vols):a0G prog 37 #[ptr a.core] [HL a s]
 (b0P (fun x:Value×List Int=>x.2.Perm (s.vols.map (·.1))∧x.2.Pairwise (· < ·)) (fun x=>x.1) (fun x=> [b0I 50 6 x.1 x.2.length (x.2.flatMap (a1H s)),HL a s])):=by
 refine en func37 ntmps37 fun R w0=> ?_;refine e0C gFd fun by_ gv gc o hg hok=> ?_;simp only[d0B,o0F,List.cons_append,List.nil_append];refine ce 17 (y2S a.vols) ?_;rintro b0 _;refine ns ?_;refine ce 0 (r2P a.vols b0 s.vols hm hk) ?_;rintro⟨v,xs⟩ ⟨h1,h2⟩;refine ns ?_;dsimp only at h1 h2 ⊢;refine a0D (i0N (e:=47) Tsl.o rfl gFd) ?_;refine go 4 ?_;refine b0U (c0W hg hok gSp) ?_;refine b0U (fun w h=>f0E 50 6 w h) ?_;have hxl:xs.length≤16:=by have:=h1.length_eq;rw[List.length_map]at this;omega
 refine n0W (e:=47) gFd fun p cap hv hcap _=> ?_;subst hv;refine a0V (X:= {y:Nat×Value // y.1≤xs.length}) (fun y=> [(0,ptr a.core),(3,y.1.2),(11,.slice p xs.length cap),(12,.int .i64 xs.length),(13,.int .i64 y.1.1)]) (fun y=> [b0I 50 6 y.1.2 y.1.1 ((xs.take y.1.1).flatMap (a1H s)),b0I 47 1 (.slice p xs.length cap) xs.length (us xs),HL a s,R]) (fun y=>xs.length-y.1.1) ⟨(0,.slice none 0 0),Nat.zero_le _⟩ gSu gSp ?_;rintro⟨⟨i,u⟩,hi⟩ m0 hm0
 try simp only at hm0
 try dsimp only
 simp only at hi;refine go 6 ?_;refine a0O rfl (fun hb14=> ?_) (fun hb14=> ?_)
 ·have hil:i<xs.length:=by have:=of_decide_eq_true hb14;omega
  refine i0T (e:=47) gFd (by omega) fun g cap' hv2 hcap2=> ?_;cases hv2
  obtain⟨x,hx⟩: ∃x,x=(a0C xs[i] s.vols).getD g0L:=⟨_,rfl⟩;refine go 7 ?_;refine a0D (a0X Sc.o rfl gFd (i0E u4 xs i _ hil (by omega))) ?_;refine go 3 ?_;refine e0C gFd fun by_ gv gc o hg hok=> ?_;simp only[d0B,o0F,List.cons_append,List.nil_append];refine go 7 ?_;refine a0D (e0Q (ek:=e0J) (ev:=e0E) (k:=xs[i]) c0Y.o z0Z (tt fun _=>trivial) trivial Zr.o rfl rfl gFd e1Y) ?_;rw[←hx];simp only[e0E,f0U];refine bl fun b24=> ?_;refine(d0E Tsl.o Ttb.o Zr.o rfl rfl rfl gFd (f0I Tsl.o (by simp;rfl) (by simp) (by simp[Value.oneCell'])) (by simp only[maxLen];omega) (by omega) (fun v25 hv25=> ?_));refine go 2 ?_;rw[show(xs.take i).flatMap (a1H s)++ [Value.int .u32 x.id,.int .u32 x.parent,.bool x.only,.int .i64 x.size,.int .i64 x.root,.int .u32 x.born]=(xs.take (i+1)).flatMap (a1H s) by rw[List.take_succ,List.getElem?_eq_getElem hil,List.flatMap_append,hx];simp[a1H,s2R,f0U]];refine go 1 ?_;refine b0U (c0W hg hok gSp) ?_;refine go 4 ?_;exact rd idh (⟨(i+1,v25),hil⟩)
 ·obtain rfl:i=xs.length:=by have:=of_decide_eq_false hb14;omega
  rw[List.take_length];refine go 8 ?_;exact rE idh (u,xs) ⟨h1,h2⟩
theorem y2W {x:Hd} (h:z0I x):(hdL x).toArray.extract 0 (0+4)=(x.at_.map a0H).toArray:=d0Y (a:= []) rfl (by simp[h.n])
theorem r2R {l:List Int} {i:Nat} (h:i<l.length):(l.take (i+1)).filter (0< ·)=(l.take i).filter (0< ·)++if 0<l[i]then [l[i]]else []:=by
 rw[List.take_succ,List.getElem?_eq_getElem h,List.filter_append,Option.toList_some];congr 1;by_cases hp:0<l[i]<;>simp[hp]
theorem h2I (W:World) (a:Ad) (s:St) (k:Int) (x:Hd) (hk:k≠0) (hx:Go.Sb.e0U k s=(.ok x,s)):a0G prog 154 #[ptr a.st,.int .i64 k] (RS W a s)
 (b0P (fun _:Value=>True) id (fun v=>RS W a s++ [b0I 3 1 v (x.at_.filter (0< ·)).length (j0W (x.at_.filter (0< ·)))])):=by
 have kh:=t0Z W a s k;rw[hx]at kh;have hh:=kh.ran_ok;obtain⟨_,hln⟩:=p0E hx;have hl4:x.at_.length=4:=hln.n;refine en func154 ntmps154 fun R w0=> ?_;refine go 17 ?_;refine b0S rfl (by simpa using hk) ?_;refine cg 7 (hh) ?_;refine a0D (n0S (v:=(x.at_.map a0H).toArray) F.fa230_0 rfl (y2W hln)) ?_;refine go 4 ?_;refine b0U (fun w h=>f0E 3 1 w h) ?_;refine a0V (X:= {y:Nat×Value // y.1≤4}) (fun y=> [(5,y.1.2),(14,.agg (x.at_.map a0H).toArray),(15,.int .i64 y.1.1)]) (fun y=>RS W a s++ [b0I 3 1 y.1.2 ((x.at_.take y.1.1).filter (0< ·)).length (j0W ((x.at_.take y.1.1).filter (0< ·))),R]) (fun y=>4-y.1.1) ⟨(0,.slice none 0 0),Nat.zero_le _⟩ gSu gSp ?_;rintro⟨⟨i,v⟩,hi⟩ m0 hm0
 try simp only at hm0
 try dsimp only
 simp only at hi;refine ns ?_;refine go 6 ?_;refine a0O rfl (fun hb16=> ?_) (fun hb16=> ?_)
 ·have hi4:i<4:=by have:=of_decide_eq_true hb16;omega
  have hil:i<x.at_.length:=by omega
  have hn:=r2R hil;have hfl:=List.length_filter_le (fun k:Int=>decide (0<k)) (x.at_.take i);rw[List.length_take]at hfl;refine go 6 ?_;refine a0D (o0P (v:=i8 x.at_[i]) Tar.o Sc.o rfl rfl (by omega) (i0E a0H x.at_ i _ hil (by omega))) ?_;refine go 9 ?_;refine a0O rfl (fun hb19=> ?_) (fun hb19=> ?_)
  ·rw[if_pos (of_decide_eq_true hb19)]at hn;refine go 3 ?_;refine bl fun b22=> ?_;refine(d0E Tsl.o Ttb.o Zr.o rfl rfl rfl gFd (f0I Tsl.o (by simp;rfl) (by simp) (by simp[Value.oneCell'])) (by simp only[maxLen];omega) (by omega) (fun v23 hv23=> ?_));refine go 2 ?_;rw[show j0W ((x.at_.take i).filter (0< ·))++ [Value.int .i64 x.at_[i]]=j0W ((x.at_.take (i+1)).filter (0< ·)) by rw[hn];simp[j0W],show((x.at_.take i).filter (0< ·)).length+1=((x.at_.take (i+1)).filter (0< ·)).length by rw[hn,List.length_append];rfl];refine go 5 ?_;exact rd idh (⟨(i+1,v23),hi4⟩)
  ·rw[if_neg (of_decide_eq_false hb19),List.append_nil]at hn;rw[←hn];refine go 6 ?_;exact rd idh (⟨(i+1,v),hi4⟩)
 ·obtain rfl:i=4:=by have:=of_decide_eq_false hb16;omega
  rw[List.take_of_length_le (by omega)];refine go 8 ?_;exact rE idh v trivial
theorem i1G {G:Gh} {k:Int} {m:List (Int×Int)} (h:k≤0∨0<(a0C k m).getD 0):f0D G 0 k m=m:=by unfold f0D;rw[if_pos h]
abbrev w0B (W:World) (a:Ad) (s:St) (G:Gh) (l:Nat):Prop:= ∀(at_:Int) (b:Nat) (m:List (Int×Int)),a0W G (l+1) at_→i0Z G m→
 a0G prog 110 #[ptr a.maps,.int .i64 at_,.int .i64 l,.map (some b)] (RS W a s++ [b0K b a0H a0H m]) (a0T (.tuple #[]) (RS W a s++ [b0K b a0H a0H (f0D G (l+1) at_ m)]))
theorem a1I (W:World) (a:Ad) (s:St) (G:Gh) (P:List Int) (hi:Inv s G P) (l:Nat) (hl:l<3) (ih: ∀m,l=m+1→w0B W a s G m):w0B W a s G l:=by
 intro at_ b m hk hm;have hgl:=hi.atMost;have hml:=hm.len;have hmv:=hm.sb.val at_;by_cases hd:at_=0∨0<(a0C at_ m).getD 0
 ·rw[z0V,if_pos hd];refine ns ?_;refine en func110 ntmps110 fun R w0=> ?_;refine go 2 ?_;by_cases h0:at_=0
  ·refine go 4 ?_;refine c0D rfl (wg rfl rfl rfl (wFT (by simpa using h0))) ?_;refine c0D rfl (wg rfl rfl rfl (wFT (by simpa using h0))) ?_;refine c0D rfl (wg rfl rfl rfl (wFT (by simpa using h0))) ?_;refine c0D rfl (wg rfl rfl rfl (wFT (by simpa using h0))) ?_;refine a0D (h0V rfl (by simpa using h0) rfl) ?_;refine go 3 ?_;exact rG
  ·refine go 4 ?_;refine b0Z (d0H rfl) (wg rfl rfl rfl (wFF (by simpa using h0))) ?_;refine b0Z (d0H rfl) (wg rfl rfl rfl (wFF (by simpa using h0))) ?_;refine b0Z (e0Q (ek:=a0H) (ev:=a0H) (k:=at_) c0Y.o h0C (tt fun _=>trivial) trivial Zr.o rfl rfl (show Fnd _ (b0K b a0H a0H m) _ from gFd) e0I) (wg rfl rfl rfl (wFF (by simpa using h0))) ?_;refine b0Z (k1Q rfl rfl) (wg rfl rfl rfl (wFF (by simpa using h0))) ?_;refine a0D (h0H rfl (by simpa using h0) rfl) ?_;refine go 2 ?_;refine d0P rfl (by simpa using hd.resolve_left h0) ?_;exact rG
 ·have h0: ¬at_=0:=fun h=>hd (.inl h);have hns:at_ ∉ m0M m:=fun h=>hd (.inr (hm.in_.2 h));obtain⟨hpos,o,ho,hlo⟩:=hi.kidOb hk h0;have hf:=hm.first (by rw[ho];rfl) hns;obtain⟨h8,hkk⟩:=hi.kids hk;have kl:=p0F W a s at_ l;rw[hi.loadK hk]at kl;have kload:=kl.ran_ok;have hln:o0T {kids:=b0G G at_,sum:=d0R G at_} :=(h0Q (hi.loadK hk)).2;rw[z0V,if_neg hd];refine ns ?_;refine en func110 ntmps110 fun R w0=> ?_;refine go 6 ?_;refine b0Z (d0H rfl) (wg rfl rfl rfl (wFF (by simpa using h0))) ?_;refine b0Z (d0H rfl) (wg rfl rfl rfl (wFF (by simpa using h0))) ?_;refine b0Z (e0Q (ek:=a0H) (ev:=a0H) (k:=at_) c0Y.o h0C (tt fun _=>trivial) trivial Zr.o rfl rfl (show Fnd _ (b0K b a0H a0H m) _ from gFd) e0I) (wg rfl rfl rfl (wFF (by simpa using h0))) ?_;refine b0Z (k1Q rfl rfl) (wg rfl rfl rfl (wFF (by simpa using h0))) ?_;refine a0D (h0H rfl (by simpa using h0) rfl) ?_;refine go 2 ?_;refine b0S rfl (by simpa using fun h=>hd (.inr h)) ?_;refine go 6 ?_;refine a0D (e0Q (ek:=a0H) (ev:=a0H) (k:=at_) c0Y.o h0C (tt fun _=>trivial) trivial Zr.o rfl rfl (show Fnd _ (b0K b a0H a0H m) _ from gFd) e0I) ?_;refine go 1 ?_;refine i0O (ek:=a0H) (ev:=a0H) (k:=at_) (v:=(a0C at_ m).getD 0+1) c0Y.o h0C (tt fun _=>trivial) trivial rfl rfl rfl (show Fnd _ (b0K b a0H a0H m) _ from gFd) ?_;refine go 1 ?_;rw[show b0O at_ ((a0C at_ m).getD 0+1) m=l0M at_ m from rfl];refine cg 6 (kload) ?_;refine a0D (n0S (v:=((b0G G at_).map a0H).toArray) F.fa182_1 rfl (d1J hln)) ?_;refine go 4 ?_;refine a0V (X:= {y:Nat×List (Int×Int) // y.1≤8∧i0Z G y.2∧(b0G G at_).foldl (fun m k=>f0D G l k m) (l0M at_ m)=((b0G G at_).drop y.1).foldl (fun m k=>f0D G l k m) y.2}) (fun y=> [(0,ptr a.maps),(2,.int .i64 l),(3,.map (some b)),(28,.agg ((b0G G at_).map a0H).toArray),(29,.int .i64 y.1.1)]) (fun y=>RS W a s++ [b0K b a0H a0H y.1.2,R]) (fun y=>8-y.1.1) ⟨(0,l0M at_ m),Nat.zero_le 8,hf.seen (by omega),rfl⟩ gSu gSp ?_;rintro⟨⟨i,n⟩,hi8,hn,he⟩ m0 hm0
  try simp only at hm0
  try dsimp only
  simp only at hi8 hn he;refine ns ?_;refine go 6 ?_;refine a0O rfl (fun hb30=> ?_) (fun hb30=> ?_)
  ·have hil:i<(b0G G at_).length:=by have:=of_decide_eq_true hb30;omega
   obtain⟨k,hkd⟩: ∃k,k=(b0G G at_)[i]:=⟨_,rfl⟩;have hki:a0W G l k:=hkd▸hkk _ (List.getElem_mem hil);rw[List.drop_eq_getElem_cons hil,List.foldl_cons,←hkd]at he;have hok2:=(hi.reach_ok l k n hki hn).1;refine go 6 ?_;refine a0D (o0P (v:=i8 k) Tar.o Sc.o rfl rfl (by omega) (by rw[hkd];exact i0E a0H _ i _ hil (by omega))) ?_;refine go 4 ?_;by_cases hl0:l=0
   ·refine go 7 ?_;subst hl0;by_cases hkp:0<k
    ·by_cases hks:0<(a0C k n).getD 0
     ·refine go 4 ?_;refine b0Z (d0H rfl) (wg rfl rfl rfl (wTT (by simpa using hkp))) ?_;refine b0Z (d0H rfl) (wg rfl rfl rfl (wTT (by simpa using hkp))) ?_;refine b0Z (e0Q (ek:=a0H) (ev:=a0H) (k:=k) c0Y.o h0C (tt fun _=>trivial) trivial Zr.o rfl rfl (show Fnd _ (b0K b a0H a0H n) _ from gFd) e0I) (wg rfl rfl rfl (wTT (by simpa using hkp))) ?_;refine b0Z (b1F rfl rfl) (wg rfl rfl rfl (wTT (by simpa using hkp))) ?_;refine a0D (h0V rfl (by simpa using hkp) rfl) ?_;refine go 9 ?_;exact rd idh (⟨(i+1,n),by(show i+1≤8);omega,hn,by rw[he,i1G (.inr hks)]⟩)
     ·refine go 4 ?_;refine b0Z (d0H rfl) (wg rfl rfl rfl (wTT (by simpa using hkp))) ?_;refine b0Z (d0H rfl) (wg rfl rfl rfl (wTT (by simpa using hkp))) ?_;refine b0Z (e0Q (ek:=a0H) (ev:=a0H) (k:=k) c0Y.o h0C (tt fun _=>trivial) trivial Zr.o rfl rfl (show Fnd _ (b0K b a0H a0H n) _ from gFd) e0I) (wg rfl rfl rfl (wTT (by simpa using hkp))) ?_;refine b0Z (b1F rfl rfl) (wg rfl rfl rfl (wTT (by simpa using hkp))) ?_;refine a0D (h0V rfl (by simpa using hkp) rfl) ?_;refine go 2 ?_;refine d0P rfl (by have:=(hn.sb.val k).1;simp;omega) ?_;refine go 1 ?_;obtain⟨d,ats,hd'⟩:=hki.resolve_left (by omega);have hp:=h2I W a s k (m0K d ats) (by omega) (hi.xhead hd');rw[show(m0K d ats).at_=ats from rfl]at hp;obtain⟨ps,hps⟩: ∃ps,ps=ats.filter (0< ·):=⟨_,rfl⟩;rw[←hps]at hp;have hnl:=hn.len;have hnv:=hn.sb.val k;have hpin: ∀x∈ps,(a0C x G).isSome=true:=fun x hx=>by rw[hps]at hx;obtain⟨k1,k2⟩:=List.mem_filter.1 hx;obtain⟨_,b,hb⟩:=hi.partOf hd' k1 (by simp at k2;omega);rw[hb];rfl
      have hpl:ps.length≤4:=by have h1:=List.length_filter_le (fun x:Int=>decide (0<x)) ats;have h2:=(hi.typ k _ hd').2.2.1;rw[hps];omega
      have hre:=hi.reach0 hd' hks;rw[←hps]at hre;have hfk:=hn.first (by rw[hd'];rfl) (fun h=>hks (hn.in_.2 h));refine go 3 ?_;refine a0D (e0Q (ek:=a0H) (ev:=a0H) (k:=k) c0Y.o h0C (tt fun _=>trivial) trivial Zr.o rfl rfl (show Fnd _ (b0K b a0H a0H n) _ from gFd) e0I) ?_;refine go 1 ?_;refine i0O (ek:=a0H) (ev:=a0H) (k:=k) (v:=(a0C k n).getD 0+1) c0Y.o h0C (tt fun _=>trivial) trivial rfl rfl rfl (show Fnd _ (b0K b a0H a0H n) _ from gFd) ?_;refine go 1 ?_;rw[show b0O k ((a0C k n).getD 0+1) n=l0M k n from rfl];refine ce 8 (hp) ?_;rintro v _;refine ns ?_;refine a0D (i0N (e:=3) (n:=ps.length) (size:=1) (xs:=j0W ps) (v:=v) Tsl.o rfl gFd) ?_;refine go 4 ?_;refine n0W (e:=3) (n:=ps.length) (size:=1) (xs:=j0W ps) (v:=v) gFd fun pp cap hv hcap _=> ?_;subst hv;refine a0V (X:= {y:Nat×List (Int×Int) // y.1≤ps.length∧SB G (5*n.length+1+y.1) (n.length+1) y.2∧ps.foldl (fun m k=>l0M k m) (l0M k n)=(ps.drop y.1).foldl (fun m k=>l0M k m) y.2}) (fun y=> [(0,ptr a.maps),(2,.int .i64 (0:Nat)),(3,.map (some b)),(28,.agg ((b0G G at_).map a0H).toArray),(29,.int .i64 i),(57,.slice pp ps.length cap),(58,.int .i64 ps.length),(59,.int .i64 y.1.1)]) (fun y=>RS W a s++ [b0K b a0H a0H y.1.2,b0I 3 1 (.slice pp ps.length cap) ps.length (j0W ps),R]) (fun y=>ps.length-y.1.1) ⟨(0,l0M k n),Nat.zero_le _,by(show SB G (5*n.length+1+((0:Nat):Int)) _ _);rw[Int.natCast_zero,Int.add_zero];exact hfk,rfl⟩ gSu gSp ?_;rintro⟨⟨j,q⟩,hj,hq,hqe⟩ m2 hm2
      try simp only at hm2
      try dsimp only
      simp only at hj hq hqe;refine ns ?_;refine go 6 ?_;refine a0O rfl (fun hb60=> ?_) (fun hb60=> ?_)
      ·have hjl:j<ps.length:=by have:=of_decide_eq_true hb60;omega
       refine i0T (e:=3) (n:=ps.length) (size:=1) (xs:=j0W ps) gFd (by omega) fun bv cv hv2 hc2=> ?_;cases hv2
       have hqv:=hq.val ps[j];rw[List.drop_eq_getElem_cons hjl,List.foldl_cons]at hqe;refine go 7 ?_;refine a0D (a0X (e:=3) (xs:=j0W ps) Sc.o rfl gFd (i0E i8 ps j _ hjl (by omega))) ?_;refine go 6 ?_;refine a0D (e0Q (ek:=a0H) (ev:=a0H) (k:=ps[j]) c0Y.o h0C (tt fun _=>trivial) trivial Zr.o rfl rfl (show Fnd _ (b0K b a0H a0H q) _ from gFd) e0I) ?_;refine go 1 ?_;refine i0O (ek:=a0H) (ev:=a0H) (k:=ps[j]) (v:=(a0C ps[j] q).getD 0+1) c0Y.o h0C (tt fun _=>trivial) trivial rfl rfl rfl (show Fnd _ (b0K b a0H a0H q) _ from gFd) ?_;refine go 1 ?_;rw[show b0O ps[j] ((a0C ps[j] q).getD 0+1) q=l0M ps[j] q from rfl];refine go 5 ?_;exact rd idh (⟨(j+1,l0M ps[j] q),hjl,by have h:=hq.see (hpin _ (List.getElem_mem hjl));rw[show 5*(n.length:Int)+1+((j+1:Nat):Int)=5*(n.length:Int)+1+(j:Int)+1 by omega];exact h,hqe⟩)
      ·obtain rfl:j=ps.length:=by have:=of_decide_eq_false hb60;omega
       rw[List.drop_length]at hqe;refine go 6 ?_;exact rd idh (⟨(i+1,q),by(show i+1≤8);omega,hq.seen (by omega),by rw[he,hre,hqe];rfl⟩)
    ·refine go 4 ?_;refine c0D rfl (wg rfl rfl rfl (wTF (by simpa using hkp))) ?_;refine c0D rfl (wg rfl rfl rfl (wTF (by simpa using hkp))) ?_;refine c0D rfl (wg rfl rfl rfl (wTF (by simpa using hkp))) ?_;refine c0D rfl (wg rfl rfl rfl (wTF (by simpa using hkp))) ?_;refine a0D (h0H rfl (by simpa using hkp) rfl) ?_;refine go 9 ?_;exact rd idh (⟨(i+1,n),by(show i+1≤8);omega,hn,by rw[he,i1G (.inl (by omega))]⟩)
   ·refine go 6 ?_;obtain⟨l',rfl⟩: ∃l',l=l'+1:=⟨l-1,by omega⟩;refine go 5 ?_;rw[show((l'+1:Nat):Int)-1=((l':Nat):Int) by omega];refine cg 1 (ih l' rfl k b n hki hn) ?_;refine go 6 ?_;exact rd idh (⟨(i+1,f0D G (l'+1) k n),by(show i+1≤8);omega,hok2,he⟩)
  ·obtain rfl:i=8:=by have:=of_decide_eq_false hb30;omega
   rw[List.drop_eq_nil_of_le (by omega)]at he;rw[he];refine go 1 ?_;refine d0Q rfl rfl gSp
theorem h2J (W:World) (a:Ad) (s:St) (G:Gh) (P:List Int) (hi:Inv s G P):w0B W a s G 2:=by
 have d0:w0B W a s G 0:=a1I W a s G P hi 0 (by decide) fun k h=>by omega
 have d1:w0B W a s G 1:=a1I W a s G P hi 1 (by decide) fun k h=>(by obtain rfl:k=0:=(by omega);exact d0);exact a1I W a s G P hi 2 (by decide) fun k h=>(by obtain rfl:k=1:=(by omega);exact d1)
theorem d2D {k:Int} : ∀ {m:List (Int×Int)},a0C k m=none→b0D k m=m
 | [],_=>rfl
 | (j,u)::m,h=>by
  rw[d0G]at h;split at h
  ·cases h
  ·rename_i e;simp only[b0D,if_neg e,d2D h]
theorem r2S {G:Gh} {m:List (Int×Int)} (h:i0Z G m) (hz:a0C 0 G=none):b0D 0 m=m:=d2D (by
 cases e:a0C 0 m with
 |none=>rfl
 |some v=>have:=h.held _ ((e0D h.ok).1 e);rw[hz]at this;cases this)
theorem r1Y (W:World) (a:Ad) (s:St) (G:Gh) (P:List Int) (hi:Inv s G P) (roots:List Int) (hk: ∀r∈roots,a0W G 3 r) (hP: ∀p∈P,p∈roots) (v:Value) (hrl:roots.length≤1000):
 a0G prog 56 #[ptr a.maps,v] (RS W a s++ [b0I 3 1 v roots.length (j0W roots)])
  (b0P (fun x:Value×List Int=>x.2.length=s.g.count 1) (fun x=>x.1) (fun x=>RS W a s++ [b0I 3 1 v roots.length (j0W roots),b0I 3 1 x.1 x.2.length (j0W x.2)])):=by
 obtain⟨hall,hcnt⟩:=hi.reachAll hk hP;have hgl:=hi.atMost;have hsl:=hall.len;have h0:i0Z G []:=⟨List.nodup_nil,fun p hp=>(by cases hp),fun p hp=>(by cases hp)⟩;refine ns ?_;refine en func56 ntmps56 fun R w0=> ?_;refine n0W (e:=3) (n:=roots.length) (size:=1) (xs:=j0W roots) (v:=v) gFd fun pp cap hv hcap _=> ?_;subst hv;refine go 7 ?_;refine(r0G (fun b8=> ?_));refine go 5 ?_;refine b0U (fun w h=>x0R a0H a0H ((show Fnd _ (pts b8 _) _ from gFd).sat h)) ?_;refine go 7 ?_;refine a0V (X:= {y:Nat×List (Int×Int) // y.1≤roots.length∧i0Z G y.2∧roots.foldl (fun m r=>f0D G 3 r m) []=(roots.drop y.1).foldl (fun m r=>f0D G 3 r m) y.2}) (fun y=> [(0,ptr a.maps),(5,.map (some b8)),(9,.slice pp roots.length cap),(10,.int .i64 roots.length),(11,.int .i64 y.1.1)]) (fun y=>RS W a s++ [b0K b8 a0H a0H y.1.2,b0I 3 1 (.slice pp roots.length cap) roots.length (j0W roots),R]) (fun y=>roots.length-y.1.1) ⟨(0,[]),Nat.zero_le _,h0,rfl⟩ gSu gSp ?_;rintro⟨⟨i,n⟩,hil0,hn,he⟩ m0 hm0
 try simp only at hm0
 try dsimp only
 simp only at hil0 hn he;refine ns ?_;refine go 6 ?_;refine a0O rfl (fun hb12=> ?_) (fun hb12=> ?_)
 ·have hil:i<roots.length:=by have:=of_decide_eq_true hb12;omega
  refine i0T (e:=3) (n:=roots.length) (size:=1) (xs:=j0W roots) gFd (by omega) fun bv cv hv2 hc2=> ?_;cases hv2
  have hri:=hk _ (List.getElem_mem hil);rw[List.drop_eq_getElem_cons hil,List.foldl_cons]at he;refine go 7 ?_;refine a0D (a0X (e:=3) (xs:=j0W roots) Sc.o rfl gFd (i0E i8 roots i _ hil (by omega))) ?_;refine cg 7 (h2J W a s G P hi roots[i] b8 n hri hn) ?_;refine go 6 ?_;exact rd idh (⟨(i+1,f0D G 3 roots[i] n),hil,(hi.reach_ok 3 _ n hri hn).1,he⟩)
 ·obtain rfl:i=roots.length:=by have:=of_decide_eq_false hb12;omega
  rw[List.drop_length]at he;have hnl:n.length=s.g.count 1:=by rw[←hcnt,he];rfl
  have hn2:=hn.len;refine go 5 ?_;refine q0N (ek:=a0H) (ev:=a0H) (k:=0) c0Y.o h0C (tt fun _=>trivial) trivial rfl rfl (show Fnd _ (b0K b8 a0H a0H n) _ from gFd) ?_;rw[r2S hn hi.zero];refine ce 5 (y2T b8) ?_;rintro bk _;refine ns ?_;refine ce 0 (r2Q (ev:=a0H) b8 bk n (by omega)) ?_;rintro⟨u,xs⟩ hx;refine ns ?_;refine go 3 ?_;exact rE idh (u,xs) (hx.trans hnl)
end Go.Proofs.Q
namespace Go.Proofs.Q
open Go Go.Sl Tryz
instance:Fl prog 24 1 1:=⟨kr⟩
instance:c0Y prog 38 3 9:=⟨kr⟩
instance:Fl prog 24 2 2:=⟨kr⟩
instance:Fl prog 24 3 3:=⟨kr⟩
instance:Fl prog 34 3 3:=⟨kr⟩
instance:Hb prog 38:=⟨kr⟩
instance:Hb prog 40:=⟨kr⟩
instance:Hb prog 42:=⟨kr⟩
instance:Hb prog 43:=⟨kr⟩
instance:Hb prog 44:=⟨kr⟩
instance:Hb prog 45:=⟨kr⟩
instance:Hb prog 47:=⟨kr⟩
instance:Hb prog 48:=⟨kr⟩
instance:Hb prog 49:=⟨kr⟩
instance:Sz prog 34 4:=⟨kr⟩
instance:Zr prog 34 (.agg #[.slice none 0 0,.int .i64 0,.int .i64 0,.int .i64 0]):=⟨kr⟩
instance:Hb prog 21:=⟨kr⟩
instance:Hb prog 22:=⟨kr⟩
instance:Hb prog 23:=⟨kr⟩
instance:Hb prog 74:=⟨kr⟩
instance:Hb prog 75:=⟨kr⟩
instance:Hb prog 76:=⟨kr⟩
instance:Hb prog 77:=⟨kr⟩
instance:Hb prog 78:=⟨kr⟩
instance:Hb prog 101:=⟨kr⟩
instance:Hb prog 102:=⟨kr⟩
instance:Hb prog 125:=⟨kr⟩
instance:Hb prog 126:=⟨kr⟩
instance:Hb prog 127:=⟨kr⟩
instance:Hb prog 171:=⟨kr⟩
instance:Hb prog 172:=⟨kr⟩
instance:Sz prog 40 1:=⟨kr⟩
instance:Hb prog 145:=⟨kr⟩
instance:Hb prog 174:=⟨kr⟩
instance:Hb prog 175:=⟨kr⟩
instance:Ag prog 277 2:=⟨kr⟩
instance:Fl prog 34 2 2:=⟨kr⟩
instance:Hb prog 208:=⟨kr⟩
instance:Pl prog 277 ([(0,1),(1,1)],.agg #[.slice none 0 0,.int .i64 0]):=⟨kr⟩
instance:Sz prog 277 2:=⟨kr⟩
instance:Zr prog 277 (.agg #[.slice none 0 0,.int .i64 0]):=⟨kr⟩
instance:Hb prog 103:=⟨kr⟩
instance:Sz prog 32 1:=⟨kr⟩
instance:Ttb prog 42 64:=⟨kr⟩
instance:Hb prog 100:=⟨kr⟩
instance:Pl prog 42 ([(0,1),(1,1),(2,1),(3,1),(4,1),(5,1)],.agg #[.int .i64 0,.int .i64 0,.bool false,.int .i64 0,.int .i64 0,.slice none 0 0]):=⟨kr⟩
end Go.Proofs.Q

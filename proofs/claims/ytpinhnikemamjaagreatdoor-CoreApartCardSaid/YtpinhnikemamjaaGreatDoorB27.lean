/- Part of the proof; no statement of its own. -/
import Derived.Test.YtpinhnikemamjaaGreatDoorB08
import Derived.Test.YtpinhnikemamjaaGreatDoorB26
import Derived.Test.YtpinhnikemamjaaGreatDoorB24
import Derived.Test.YtpinhnikemamjaaGreatDoorB17
import Derived.Test.YtpinhnikemamjaaGreatDoorB07
import Derived.Test.YtpinhnikemamjaaGreatDoorB16
import Derived.Test.YtpinhnikemamjaaGreatDoorB12
set_option linter.all false
set_option maxRecDepth 4000
set_option maxHeartbeats 4000000
namespace Go.Proofs.Q
open Go.Sl Go.Sb
section
theorem n1S (W:World) (a:Ad) (s:St) {C:Type} (r:Nat) (J Jx:C→a0E) (see:Nat×Int→C→Bool×C) (mu:C→Nat) (bd:Nat) (hmu: ∀x c,mu (see x c).2≤mu c+1) (hy:c2F r J Jx see mu bd): ∀level,level<3→c1W W a s r J Jx see mu bd level
 |0,h=>f1B W a s r J Jx see mu bd hmu hy 0 h (fun m e=>by omega)
 |l+1,h=>f1B W a s r J Jx see mu bd hmu hy (l+1) h (fun m e=>by have e':m=l:=(Nat.succ.inj e).symm;rw[e'];exact n1S W a s r J Jx see mu bd hmu hy l (by omega))
abbrev t0J (b:Nat) (a:Ad):a0E:=pts b (.cells #[ptr a.maps] 56 (0,0))
attribute [local irreducible] Sl.a0L Sl.OW Sl.CW Sl.OS Sl.OM Sl.OMf Sl.KM
theorem g2U (W:World) (a:Ad) (s:St) (root:Int) (b0 b1:Nat) {C:Type} (r:Nat) (J Jx:C→a0E) (see:Nat×Int→C→Bool×C) (mu:C→Nat) (bd:Nat) (hmu: ∀x c,mu (see x c).2≤mu c+1) (hy:c2F r J Jx see mu bd) (c:C) (ys:List (Nat×Int)) (hv:lvs 2 0 root s=some ys) (hbd:mu c+ys.length≤bd):
 a0S Tryz.prog 255 #[.func (.yield r) #[] #[],ptr b0,ptr b1] (RS W a s++ [t0J b0 a,f0M b1 root,J c]) (b0G (.tuple #[]) (RS W a s++ [t0J b0 a,f0M b1 root,JB J Jx (f0V see ys c)])):=by
 simp only[List.cons_append,List.nil_append]
 refine a0C Tryz.func255 rfl Tryz.ntmps255 rfl (fun R w0=> ?_)
 simp only[a0N,List.cons_append,List.nil_append]
 refine go 4 ?_
 refine a0D rfl Hb.o rfl (n1S W a s r J Jx see mu bd hmu hy 2 (by omega) root 0 c ys hv hbd (by omega)) gSp ?_
 refine ns ?_
 refine go 1 ?_
 refine e0N rfl rfl gSp
theorem l2X (a:Ad) (root:Int):a0S Tryz.prog 205 #[ptr a.maps,.int .i64 root] [] (c0X (fun _:Nat×Nat=>True) (fun x=> .func (.func 255) #[] #[ptr x.1,ptr x.2]) (fun x=> [t0J x.1 a,f0M x.2 root])):=by
 refine a0C Tryz.func205 rfl Tryz.ntmps205 rfl (fun R w0=> ?_)
 simp only[a0N,List.cons_append,List.nil_append]
 refine go 2 ?_
 refine(a0X rfl (fun b2=> ?_))
 refine(a0X rfl (fun b3=> ?_))
 refine go 9 ?_
 refine d0Z ((b2,b3):Nat×Nat) trivial (fun _ _ h=>h) rfl rfl gSp
abbrev u0Y (x:Nat×Int):List Value:= [.int .i64 x.1,.int .i64 x.2]
abbrev lvA (b6 b7 b9 from_ upto:Nat) (out:List (Nat×Int)) (v:Value):List a0E:= [pts b9 (.cells #[v] 241 (0,0)),c0E 244 2 v out.length (out.flatMap u0Y),f0M b6 from_,f0M b7 upto]
abbrev lvJ (b6 b7 b9 from_ upto l:Nat) (rec:Loop) (x:Option Code) (out:List (Nat×Int)):a0E:=ex fun v:Value=>b0R (pts l (.loop (q0D rec x))::lvA b6 b7 b9 from_ upto out v)
theorem l1K {b6 b7 b9 from_ upto l:Nat} {rec:Loop} {x:Option Code} {out:List (Nat×Int)} {w:World} {M:List a0E} (v:Value) (h:Sat w (pts l (.loop (q0D rec x))::(lvA b6 b7 b9 from_ upto out v++M))):Sat w (lvJ b6 b7 b9 from_ upto l rec x out::M):=l0Q.2 ⟨v,c0A.2 h⟩
theorem g2V (from_ upto:Nat) (x:Nat×Int) (c:List (Nat×Int)):(d0N from_ upto x c).2.length≤c.length+1:=by unfold d0N;split<;>(try split)<;>simp
theorem v1R (W:World) (a:Ad) (s:St) (root:Int) (from_ upto:Nat) (ys:List (Nat×Int)) (hv:lvs 2 0 root s=some ys) (hyl:ys.length≤512):a0S Tryz.prog 168 #[ptr a.maps,.int .i64 root,.int .i64 from_,.int .i64 upto] (RS W a s)
 (c0X (fun _:Value=>True) id (fun v=>RS W a s++ [c0E 244 2 v (f0V (d0N from_ upto) ys []).2.length ((f0V (d0N from_ upto) ys []).2.flatMap u0Y)])):=by
 refine u1E Tryz.func168 rfl Tryz.ntmps168 rfl (fun R w0=> ?_)
 simp only[a0N,List.cons_append,List.nil_append]
 refine go 2 ?_
 refine(a0X rfl (fun b6=> ?_))
 refine(a0X rfl (fun b7=> ?_))
 refine go 5 ?_
 refine(a0U Zr.o (fun b9=> ?_))
 refine go 4 ?_
 refine c0S (fun w h=>h0S 244 2 w h) ?_
 refine go 3 ?_
 refine a0W rfl Hb.o rfl (l2X a root) gSp ?_
 rintro⟨p0,p1⟩ _
 refine ns ?_
 refine go 3 ?_
 refine i2M (X:=Bool×List (Nat×Int)) (ok:=fun p=>p=f0V (d0N from_ upto) ys []) (v:=fun _=> .tuple #[]) (jump:=fun p=>if p.1 then none else some (.exit 0)) (N:=fun p=>RS W a s++ [t0J p0 a,f0M p1 root,ex fun v:Value=>b0R (lvA b6 b7 b9 from_ upto p.2 v)]) rfl Hb.o (show b0L _ (RS W a s++([t0J p0 a,f0M p1 root]++lvA b6 b7 b9 from_ upto [] (.slice none 0 0))) _ from gSp) ?_ ?_ ?_
 ·intro l D fn tmps hsz hsl rec hrec
  refine n2P (fun w F h=> ?_) (g2U W a s root p0 p1 l (lvJ b6 b7 b9 from_ upto l rec none) (lvJ b6 b7 b9 from_ upto l rec (some (.exit 0))) (d0N from_ upto) List.length 512 (g2V from_ upto) (fun x c hc=> ?_) [] ys hv (by simpa using hyl)) (fun e L hp=> ?_)
  ·simp only[List.cons_append,List.nil_append]at h ⊢
   have h1:Sat w (b0R (pts l (.loop (q0D rec none))::lvA b6 b7 b9 from_ upto [] (.slice none 0 0))::(RS W a s++ [t0J p0 a,f0M p1 root,F])):=c0A.2 (by simp only[List.cons_append,List.nil_append];subst hrec;exact h.re gSp)
   have h2:Sat w (lvJ b6 b7 b9 from_ upto l rec none []::(RS W a s++ [t0J p0 a,f0M p1 root,F])):=l0Q.2 ⟨_,h1⟩
   simp only[List.cons_append,List.nil_append]at h2
   exact h2.re gSp
  rotate_left
  ·obtain⟨rfl,rfl⟩:=hp
   refine⟨_,⟨f0V (d0N from_ upto) ys [],rfl,rfl,rfl⟩,fun w F h=> ?_⟩
   revert h
   generalize f0V (d0N from_ upto) ys []=p
   obtain⟨b,out⟩:=p
   intro h
   simp only[List.cons_append,List.nil_append]at h ⊢
   cases b with
   |false=>
    rw[l2T rfl]at h
    have h1:Sat w (lvJ b6 b7 b9 from_ upto l rec (some (.exit 0)) out::(RS W a s++ [t0J p0 a,f0M p1 root,F])):=by simp only[List.cons_append,List.nil_append];exact h.re gSp
    obtain⟨v,h2⟩:=l0Q.1 h1
    have h3:=c0A.1 h2
    simp only[List.cons_append,List.nil_append]at h3
    have h4:Sat w (b0R (lvA b6 b7 b9 from_ upto out v)::(pts l (.loop (q0D rec (some (.exit 0))))::(RS W a s++ [t0J p0 a,f0M p1 root,F]))):=c0A.2 (by simp only[List.cons_append,List.nil_append];exact h3.re gSp)
    have h5:Sat w ((ex fun v=>b0R (lvA b6 b7 b9 from_ upto out v))::(pts l (.loop (q0D rec (some (.exit 0))))::(RS W a s++ [t0J p0 a,f0M p1 root,F]))):=l0Q.2 ⟨v,h4⟩
    simp only[List.cons_append,List.nil_append]at h5
    exact h5.re gSp
   |true=>
    rw[l2S rfl]at h
    have h1:Sat w (lvJ b6 b7 b9 from_ upto l rec none out::(RS W a s++ [t0J p0 a,f0M p1 root,F])):=by simp only[List.cons_append,List.nil_append];exact h.re gSp
    obtain⟨v,h2⟩:=l0Q.1 h1
    have h3:=c0A.1 h2
    simp only[List.cons_append,List.nil_append]at h3
    have h4:Sat w (b0R (lvA b6 b7 b9 from_ upto out v)::(pts l (.loop (q0D rec none))::(RS W a s++ [t0J p0 a,f0M p1 root,F]))):=c0A.2 (by simp only[List.cons_append,List.nil_append];exact h3.re gSp)
    have h5:Sat w ((ex fun v=>b0R (lvA b6 b7 b9 from_ upto out v))::(pts l (.loop (q0D rec none))::(RS W a s++ [t0J p0 a,f0M p1 root,F]))):=l0Q.2 ⟨v,h4⟩
    simp only[List.cons_append,List.nil_append]at h5
    exact h5.re gSp
  refine i2N fun v=> ?_
  subst hrec
  refine u1D rfl hsz hsl rfl (fun R2 w2=> ?_)
  simp only[List.cons_append,List.nil_append]
  skip
  refine x0B (by repeat (first|exact x0D|exact h1Q|apply z0F|apply x0C)) rfl ?_
  refine(a0U Zr.o (fun b10=> ?_))
  refine(a0K Sz.o rfl rfl (by first|rfl|simp) (by simp[Value.oneCell']) (by simp[Value.cells]) (by simp[i0N,Value.cells]<;>rfl) ?_)
  refine go 1 ?_
  refine i2L rfl gFd ?_
  refine i2K ?_
  refine p1B ?_
  refine p1B ?_
  refine x0B (by repeat (first|exact x0D|exact h1Q|apply z0F|apply x0C)) rfl ?_
  refine go 5 ?_
  refine k1D (fun _ _ h=>h) ?_
  refine m2O rfl (fun hb18=> ?_) (fun hb18=> ?_)
  ·have hge:upto≤x.1:=by have h:=hb18;simp only[decide_eq_true_eq]at h;omega
   have hs:d0N from_ upto x c=(false,c):=by unfold d0N;rw[if_pos hge]
   rw[hs]
   refine n2M ?_
   repeat (first|with_reducible refine q0Q ?_|with_reducible refine v0W ?_|with_reducible refine s0C rfl ?_)
   refine z1I gFd (fun w h=>⟨_,⟨rfl,rfl⟩,l1K (M:= [R2]) v ?_⟩) rfl
   simp only[List.cons_append,List.nil_append]at h ⊢
   exact h.sub gSp
  ·have hge: ¬upto≤x.1:=by have h:=hb18;simp only[decide_eq_false_iff_not]at h;omega
   refine w1K ?_
   refine k1D (fun _ _ h=>h) ?_
   refine p1B ?_
   refine x0B (by repeat (first|exact x0D|exact h1Q|apply z0F|apply x0C)) rfl ?_
   refine go 5 ?_
   refine k1D (fun _ _ h=>h) ?_
   refine m2O rfl (fun hb22=> ?_) (fun hb22=> ?_)
   ·have hs:d0N from_ upto x c=(true,c++ [x]):=by unfold d0N;rw[if_neg hge,if_pos (by have h:=hb22;simp only[decide_eq_true_eq]at h;omega)]
    rw[hs]
    refine x0B (by repeat (first|exact x0D|exact h1Q|apply z0F|apply x0C)) rfl ?_
    refine go 2 ?_
    refine(b0P Tsl.o Zr.o rfl rfl rfl (by simp[d0B,d0K,Value.cells]<;>rfl) (fun b25=> ?_))
    refine(e0F Tsl.o Ttb.o Zr.o rfl rfl rfl gFd (h0O Tsl.o (by simp;rfl) (by simp) (by simp[Value.oneCell'])) (by simp only[maxLen];omega) (by omega) (fun v26 hv26=> ?_))
    refine go 2 ?_
    rw[show c.flatMap u0Y++ [Value.int .i64 x.1,Value.int .i64 x.2]=(c++ [x]).flatMap u0Y by simp,show c.length+1=(c++ [x]).length by simp]
    repeat (first|with_reducible refine q0Q ?_|with_reducible refine v0W ?_|with_reducible refine s0C rfl ?_)
    refine l1Y gFd (fun w h=>⟨_,⟨rfl,rfl⟩,l1K (M:= [R2]) v26 ?_⟩) rfl
    simp only[List.cons_append,List.nil_append]at h ⊢
    exact h.sub gSp
   ·have hs:d0N from_ upto x c=(true,c):=by unfold d0N;rw[if_neg hge,if_neg (by have h:=hb22;simp only[decide_eq_false_iff_not]at h;omega)]
    rw[hs]
    refine w1K ?_
    repeat (first|with_reducible refine q0Q ?_|with_reducible refine v0W ?_|with_reducible refine s0C rfl ?_)
    refine l1Y gFd (fun w h=>⟨_,⟨rfl,rfl⟩,l1K (M:= [R2]) v ?_⟩) rfl
    simp only[List.cons_append,List.nil_append]at h ⊢
    exact h.sub gSp
 ·intro D x hx hj
  subst hx
  refine go 2 ?_
  simp only[List.cons_append,List.nil_append]
  refine b1K (show Fnd _ (ex fun v:Value=>b0R (lvA b6 b7 b9 from_ upto (f0V (d0N from_ upto) ys []).2 v)) _ from gFd) fun v=> ?_
  simp only[List.cons_append,List.nil_append]
  refine go 5 ?_
  exact w1L (fun _ _ h=>h) rfl gSp ⟨v,trivial,rfl,rfl⟩
 ·intro D x k hx hj
  subst hx
  obtain rfl:k= .exit 0:=by split at hj<;>simp_all
  refine go 3 ?_
  simp only[List.cons_append,List.nil_append]
  refine b1K (show Fnd _ (ex fun v:Value=>b0R (lvA b6 b7 b9 from_ upto (f0V (d0N from_ upto) ys []).2 v)) _ from gFd) fun v=> ?_
  simp only[List.cons_append,List.nil_append]
  refine go 5 ?_
  exact w1L (fun _ _ h=>h) rfl gSp ⟨v,trivial,rfl,rfl⟩
end
section
theorem l2Y (xs:List (Nat×Int)) {i:Nat} (hi:i<xs.length):((xs.flatMap u0Y).drop (i*2)).take 2=u0Y xs[i]:=by
 induction xs generalizing i with
 |nil=>simp at hi
 |cons x xs ih=>
  cases i with
  |zero=>rfl
  |succ i=>
   rw[show(i+1)*2=2+i*2 by omega,List.flatMap_cons,show 2+i*2=(u0Y x).length+i*2 from rfl,List.drop_length_add_append]
   exact ih (i:=i) (by simpa using hi)
theorem y1J (from_ upto:Nat): ∀(ys c:List (Nat×Int)) (x:Nat×Int),x∈(f0V (d0N from_ upto) ys c).2→x∈c∨x∈ys
 | [],c,x,h=> .inl h
 |y::ys,c,x,h=>by
  have hs: ∀z,z∈(d0N from_ upto y c).2→z∈c∨z=y:=fun z hz=>by
   unfold d0N at hz
   split at hz
   ·exact .inl hz
   ·split at hz
    ·rcases List.mem_append.1 hz with h|h
     ·exact .inl h
     ·exact .inr (List.mem_singleton.1 h)
    ·exact .inl hz
  rw[c1X]at h
  split at h
  ·rcases y1J from_ upto ys _ x h with h|h
   ·rcases hs x h with h|h
    ·exact .inl h
    ·exact .inr (h▸List.mem_cons_self)
   ·exact .inr (List.mem_cons_of_mem _ h)
  ·rcases hs x h with h|h
   ·exact .inl h
   ·exact .inr (h▸List.mem_cons_self)
theorem l2Z (from_ upto:Nat): ∀(ys c:List (Nat×Int)),(f0V (d0N from_ upto) ys c).2.length≤c.length+ys.length:=fun ys c=>l1J (mu:=List.length) (g2V from_ upto) ys c
theorem m2A {α β:Type} (f:β→α→M β) (b:β) (s:St):r0B f b [] s=(.ok b,s):=rfl
theorem g2W {α β:Type} (f:β→α→M β) (b:β) (x:α) (l:List α) (s:St):r0B f b (x::l) s=a0B (f b x) (fun b'=>r0B f b' l) s:=rfl
set_option maxRecDepth 4000 in
attribute [local irreducible] Sl.a0L Sl.OW Sl.CW Sl.OS Sl.OM Sl.OMf Sl.KM
theorem c2H (W:World) (hW:h0L W) (a:Ad) (s:St) (root:Int) (from_ upto:Nat) (ys:List (Nat×Int)) (hv:lvs 2 0 root s=some ys) (hyl:ys.length≤512) (hat: ∀x∈ys,x.1<1000000) (hbits:s.bits≤256) (hnb:(j0P root from_ upto s).1≠ .big):
 a0S Tryz.prog 121 #[ptr a.maps,.int .i64 root,.int .i64 from_,.int .i64 upto] (RS W a s) (Ran fT (RS W a) a0V (j0P root from_ upto s)):=by
 obtain⟨out,hout⟩: ∃out,out=(f0V (d0N from_ upto) ys []).2:=⟨_,rfl⟩
 have hol:out.length≤512:=by rw[hout];have:=l2Z from_ upto ys [];simp only[List.length_nil]at this;omega
 have hin: ∀x∈out,x.1<1000000:=by rw[hout];exact fun x hx=>hat x (y1J from_ upto ys [] x hx |>.resolve_left (by simp))
 have e0:j0P root from_ upto s=r0B (fun r x=>l0J r x.1 0) root out s:=by
  unfold j0P
  rw[a0A (show l0E root from_ upto s=(.ok out,s) by unfold l0E;rw[hv,hout])]
 have hls:=v1R W a s root from_ upto ys hv hyl
 rw[←hout]at hls
 refine a0C Tryz.func121 rfl Tryz.ntmps121 rfl (fun R w0=> ?_)
 simp only[a0N,List.cons_append,List.nil_append]
 refine go 12 ?_
 refine a0W rfl Hb.o rfl (hls) gSp ?_
 rintro v _
 refine ns ?_
 refine a0F (j0S Tsl.o rfl gFd) ?_
 refine go 4 ?_
 refine b0S (X:= {y:Nat×St×Int // y.1≤out.length∧y.2.1.bits=s.bits∧j0P root from_ upto s=r0B (fun r x=>l0J r x.1 0) y.2.2 (out.drop y.1) y.2.1}) (fun y=> [(0,ptr a.maps),(1,.int .i64 y.1.2.2),(15,v),(16,.int .i64 out.length),(17,.int .i64 y.1.1)]) (fun y=>RS W a y.1.2.1++ [c0E 244 2 v out.length (out.flatMap u0Y),R]) (fun y=>out.length-y.1.1) ⟨(0,s,root),Nat.zero_le _,rfl,e0⟩ gSu gSp ?_
 rintro⟨⟨i,u,r⟩,hi,hub,he⟩ m0 hm0
 try simp only at hm0
 try dsimp only
 simp only at hi hub he
 simp only[List.cons_append,List.nil_append]
 refine go 6 ?_
 refine b0C rfl (fun hb18=> ?_) (fun hb18=> ?_)
 ·have hil:i<out.length:=by have:=of_decide_eq_true hb18;omega
  refine n0U (e:=244) gFd (by omega) fun bw capw hvw hcapw=> ?_
  subst hvw
  rw[List.drop_eq_getElem_cons hil,g2W]at he
  refine go 7 ?_
  refine a0F (p1E Ag.o rfl gFd (vs:=u0Y out[i]) (by rw[Nat.zero_add];exact l2Y out hil) rfl (by decide)) ?_
  refine(a0U Zr.o (fun b10=> ?_))
  refine a0K Sz.o rfl rfl rfl (by simp[Value.oneCell']) (by simp[Value.cells]) (a0R (by simp[Value.cells])) ?_
  refine go 7 ?_
  refine b0F rfl Hb.o rfl (c1O W hW a u r out[i].1 0 (by omega) (hin _ (List.getElem_mem hil)) (by rw[he]at hnb;exact c0R hnb)) gSp (fun r' t ho=> ?_) (fun e t ho=>by(repeat (first|with_reducible refine a0G ?_|with_reducible refine a0M ?_));exact a0Y ((by rw[he];exact a0Q ho)) (fun _ _ h=>h) gSp)
  refine ns ?_
  have hpb:=l1A r out[i].1 0 u
  rw[ho]at hpb
  rw[a0A ho]at he
  refine go 7 ?_
  refine b0Q (fun _ _ h=>h) (⟨(i+1,t,r'),hil,hpb.trans hub,he⟩) (by first|omega| (simp only;omega)) gSu gSp
 ·obtain rfl:i=out.length:=by have:=of_decide_eq_false hb18;omega
  rw[List.drop_length,m2A]at he
  refine go 8 ?_
  exact c0I he (fun _ _ h=>h) rfl rfl gSp
end
section
theorem s1Q {g:Nat→Int→Option (List (Nat×Int))} {from_ m:Nat} : ∀(kids:List Int) (i:Nat) (ys:List (Nat×Int)),(∀j k a,g j k=some a→a.length≤m∧ ∀x∈a,x.1<from_+(j+1)*m)→lvK g i kids=some ys→ys.length≤kids.length*m∧ ∀x∈ys,x.1<from_+(i+kids.length)*m
 | [],i,ys,hg,h=>by
  unfold lvK at h
  obtain rfl:=Option.some.inj h
  exact⟨by simp,fun x hx=>by cases hx⟩
 |k::kids,i,ys,hg,h=>by
  unfold lvK at h
  obtain⟨a,h1,h2⟩:=Option.bind_eq_some_iff.1 h
  obtain⟨b,h3,h4⟩:=Option.map_eq_some_iff.1 h2
  obtain⟨h5,h6⟩:=hg i k a h1
  obtain⟨h7,h8⟩:=s1Q kids (i+1) b hg h3
  subst h4
  refine⟨?_,fun x hx=> ?_⟩
  ·rw[List.length_append,List.length_cons,Nat.succ_mul];omega
  ·rw[List.length_cons]
   rcases List.mem_append.1 hx with hx|hx
   ·have h9:=h6 x hx
    have:(i+1)*m≤(i+(kids.length+1))*m:=Nat.mul_le_mul_right _ (by omega)
    omega
   ·have h9:=h8 x hx
    rw[show i+(kids.length+1)=i+1+kids.length by omega];exact h9
theorem s2E: ∀(l from_:Nat) (at_:Int) (s:St) (ys:List (Nat×Int)),lvs l from_ at_ s=some ys→ys.length≤8^(l+1)∧ ∀x∈ys,x.1<from_+8^(l+1):=by
 intro l
 induction l with
 |zero=>
  intro from_ at_ s ys h
  unfold lvs at h
  cases ho:Go.Sb.load at_ 0 s with
  |mk o t=>
   rw[ho]at h
   cases o with
   |ok n=>
    have h8:n.kids.length=8:=(i0H ho).2.n
    obtain⟨a1,a2⟩:=s1Q (m:=1) (from_:=from_) n.kids 0 ys (fun j k a ha=>by
     have ha:=Option.some.inj ha
     subst ha
     split
     ·exact⟨by simp,fun x hx=>by cases hx⟩
     ·exact⟨by simp,fun x hx=>by rw[List.mem_singleton.1 hx];show from_+j<_;omega⟩) h
    rw[h8]at a1 a2
    exact⟨a1,fun x hx=>by have:=a2 x hx;omega⟩
   |err e=>cases h
   |big=>cases h
 |succ l ih=>
  intro from_ at_ s ys h
  unfold lvs at h
  cases ho:Go.Sb.load at_ (l+1) s with
  |mk o t=>
   rw[ho]at h
   cases o with
   |ok n=>
    have h8:n.kids.length=8:=(i0H ho).2.n
    obtain⟨a1,a2⟩:=s1Q (m:=8^(l+1)) (from_:=from_) n.kids 0 ys (fun j k a ha=>by
     split at ha
     ·have ha:=Option.some.inj ha
      subst ha
      exact⟨by simp,fun x hx=>by cases hx⟩
     ·obtain⟨b1,b2⟩:=ih _ _ _ _ ha
      refine⟨b1,fun x hx=> ?_⟩
      have:=b2 x hx
      rw[Nat.succ_mul];omega) h
    rw[h8]at a1 a2
    have e:8^(l+1+1)=8*8^(l+1):=by rw[Nat.pow_succ,Nat.mul_comm]
    rw[e]
    exact⟨a1,fun x hx=>by have:=a2 x hx;rw[Nat.zero_add]at this;exact this⟩
   |err e=>cases h
   |big=>cases h
theorem v1S {root:Int} {from_ upto:Nat} {s:St} (h:(l0E root from_ upto s).1≠ .big): ∃ys,lvs 2 0 root s=some ys:=by
 unfold l0E at h
 cases ho:lvs 2 0 root s with
 |some ys=>exact⟨ys,rfl⟩
 |none=>rw[ho]at h;exact absurd rfl h
theorem v1T (W:World) (hW:h0L W) (a:Ad) (s:St) (root:Int) (from_ upto:Nat) (hbits:s.bits≤256) (hnb:(j0P root from_ upto s).1≠ .big):
 a0S Tryz.prog 121 #[ptr a.maps,.int .i64 root,.int .i64 from_,.int .i64 upto] (RS W a s) (Ran fT (RS W a) a0V (j0P root from_ upto s)):=by
 obtain⟨ys,hv⟩:=v1S (show(l0E root from_ upto s).1≠ .big from c0R hnb)
 obtain⟨h1,h2⟩:=s2E 2 0 root s ys hv
 exact c2H W hW a s root from_ upto ys hv h1 (fun x hx=>by have:=h2 x hx;have:(8:Nat)^(2+1)=512:=rfl;omega) hbits hnb
abbrev c2I (b b1:Nat):a0E:=pts b (.cells #[ptr b1] 129 (0,0))
abbrev s1R (a:Ad) (b2 b3 b:Nat) (y:Ent):a0E:=b0R [f0Z b2 a,c2I b3 b,s0K b y]
attribute [local irreducible] Sl.a0L Sl.OW Sl.CW Sl.OS Sl.OM Sl.OMf Sl.KM
theorem y0C (W:World) (hW:h0L W) (a:Ad) (s:St) (b2 b3 b:Nat) (x:Ent) (fr upto:Nat) (h1:fr≤upto) (h2:upto≤5000) (hbits:s.bits≤256) (hnb:(e0U x fr (a0T ((upto-fr)*64)) s).1≠ .big):
 a0S Tryz.prog 120 #[.int .i64 fr,.int .i64 upto,ptr b2,ptr b3] (RS W a s++ [f0Z b2 a,c2I b3 b,s0K b x]) (Ran fT (RSo W a (s1R a b2 b3 b)) k0P (s0L (e0U x fr (a0T ((upto-fr)*64)) s))):=by
 have hr:=y0L ((upto-fr)*64) (by omega)
 have hzl:(a0T ((upto-fr)*64)).length=(upto-fr)*64:=by simp[a0T]
 rw[show((((upto-fr)*64:Nat):Int))=(((upto:Nat):Int)- ((fr:Nat):Int))*64 by omega]at hr
 simp only[List.cons_append,List.nil_append]
 refine a0C Tryz.func120 rfl Tryz.ntmps120 rfl (fun R w0=> ?_)
 simp only[a0N,List.cons_append,List.nil_append]
 refine t0Z 8 (by rfl) (.soft 0 (.soft 1 (.soft 2 (.soft 3 (.soft 4 (.soft 5 (.soft 6 (.hard 7 .done)))))))) [f0Z b2 a,c2I b3 b] Fol.o (by kernel_rfl) (by repeat (first|with_reducible exact a0J.bp|with_reducible apply a0J.then|with_reducible apply a0J.inBlock)) gSp ?_
 simp only[List.take_succ_cons,List.take_zero]
 refine go 7 ?_
 refine c0H rfl (fun hok EE FF=> ?_)
 simp only[List.cons_append,List.nil_append]
 refine a0D rfl Hb.o rfl (hr) gSp ?_
 refine ns ?_
 refine go 1 ?_
 refine c0G (E:=EE) (F:=FF) (by repeat (first|exact Tl.nil|apply Tl.cons)) gFd gSp (hok.put rfl) ?_
 refine go 1 ?_
 refine y0H ?_
 refine b0F rfl Hb.o rfl (i1Y W hW a s b x fr (a0T ((upto-fr)*64)) (by rw[hzl];omega) hbits hnb) gSp (fun v ⟨t',ox⟩ ho=> ?_) (fun e t ho=>by(repeat (first|with_reducible refine a0G ?_|with_reducible refine a0M ?_));(obtain⟨t1,t2⟩:=t;obtain⟨hx,hm⟩:=p0X ho;obtain rfl:t2=none:=congrArg Prod.snd hx;have hm:_=(Out.err e,t1):=hm;simp only[RSo,List.cons_append,List.nil_append];exact a0Y (by rw[hm];rfl) (fun _ _ h=>h) gSp))
 refine ns ?_
 refine go 1 ?_
 obtain⟨y,hx,hm⟩:=r0T ho
 obtain rfl:ox=some y:=congrArg Prod.snd hx
 have hm:_=(Out.ok y,t'):=hm
 simp only[RSo,List.cons_append,List.nil_append]
 refine b0O (L':=s1R a b2 b3 b y::(RS W a t'++ [R])) (fun w h=>c0A.2 ?_) ?_
 ·simp only[List.cons_append,List.nil_append]
  exact h.sub gSp
 ·simp only[List.cons_append,List.nil_append]
  exact d0X (s:=(t',some y)) (by rw[hm];rfl) rfl rfl gSp
end
section
theorem g2X (root:Int) (f u:Nat):PB (l0E root f u):=fun s=>by unfold l0E;split<;>rfl
theorem y1K {α β:Type} {f:β→α→M β} (hf: ∀b x,PB (f b x)): ∀(l:List α) (b:β),PB (r0B f b l)
 | [],b=>d0J _
 |x::l,b=>b0Y (hf b x) fun b'=>y1K hf l b'
theorem m2B (root:Int) (f u:Nat):PB (j0P root f u):=b0Y (g2X _ _ _) fun l=>y1K (fun r x=>l1A r x.1 0) l root
set_option maxRecDepth 8000
attribute [local irreducible] Sl.a0L Sl.OW Sl.CW Sl.OS Sl.OM Sl.OMf Sl.KM
theorem f1C (W:World) (hW:h0L W) (a:Ad) (s:St) (b:Nat) (x:Ent) (fr upto:Nat) (h1:fr≤upto) (hbits:s.bits≤256) (hnb:(h0F x fr upto s).1≠ .big):
 a0S Tryz.prog 71 #[ptr a.core,ptr b,.int .i64 fr,.int .i64 upto] (RS W a s++ [s0K b x]) (Ran fT (RSo W a (s0K b)) k0P (s0L (h0F x fr upto s))):=by
 have h2:upto≤5000:=by
  rcases Nat.lt_or_ge 5000 upto with h|h
  ·unfold h0F at hnb;rw[if_pos h]at hnb;exact absurd rfl hnb
  ·exact h
 have e0:h0F x fr upto s=(if upto/4≤(fr+3)/4 then e0U x fr (a0T ((upto-fr)*64))else
  a0B (e0U x fr (a0T (((fr+3)/4*4-fr)*64))) fun y=>a0B (j0P y.root ((fr+3)/4) (upto/4)) fun r=>e0U {y with root:=r} (upto/4*4) (a0T ((upto-upto/4*4)*64))) s:=by unfold h0F;rw[if_neg (by omega)]
 obtain⟨p,hp⟩: ∃p,p=(fr+3)/4:=⟨_,rfl⟩
 obtain⟨q,hq⟩: ∃q,q=upto/4:=⟨_,rfl⟩
 rw[←hp,←hq]at e0
 simp only[List.cons_append,List.nil_append]
 refine a0C Tryz.func71 rfl Tryz.ntmps71 rfl (fun R w0=> ?_)
 simp only[a0N,List.cons_append,List.nil_append]
 refine go 2 ?_
 refine(a0X rfl (fun b4=> ?_))
 refine(a0X rfl (fun b5=> ?_))
 refine go 14 ?_
 rw[show(((fr:Nat):Int)+4-1)/4=(p:Int) by omega]
 refine go 2 ?_
 rw[show((upto:Nat):Int)/4=(q:Int) by omega]
 refine go 12 ?_
 refine b0C rfl (fun hb20=> ?_) (fun hb20=> ?_)
 ·have hpq:q≤p:=by have h:=hb20;simp only[decide_eq_true_eq]at h;omega
  rw[if_pos hpq]at e0
  refine go 5 ?_
  refine b0F rfl Hb.o rfl (y0C W hW a s b4 b5 b x fr upto h1 h2 hbits (by rw[←e0];exact hnb)) gSp (fun v ⟨t',ox⟩ ho=> ?_) (fun e t ho=>by(repeat (first|with_reducible refine a0G ?_|with_reducible refine a0M ?_));(obtain⟨t1,t2⟩:=t;obtain⟨hx,hm⟩:=p0X ho;obtain rfl:t2=none:=congrArg Prod.snd hx;have hm:_=(Out.err e,t1):=hm;simp only[RSo,List.cons_append,List.nil_append];exact a0Y (by rw[e0,hm];rfl) (fun _ _ h=>h) gSp))
  refine ns ?_
  refine go 1 ?_
  obtain⟨y,hx,hm⟩:=r0T ho
  obtain rfl:ox=some y:=congrArg Prod.snd hx
  have hm:_=(Out.ok y,t'):=hm
  simp only[RSo,List.cons_append,List.nil_append]
  refine go 1 ?_
  refine l0A (show Fnd _ (s1R a b4 b5 b y) _ from gFd) ?_
  simp only[List.cons_append,List.nil_append]
  exact c0I (s:=(t',some y)) (by rw[e0,hm];rfl) (fun _ _ h=>h) rfl rfl gSp
 ·have hpq: ¬q≤p:=by have h:=hb20;simp only[decide_eq_false_iff_not]at h;omega
  rw[if_neg hpq]at e0
  have hnb1:=hnb
  rw[e0]at hnb1
  refine go 8 ?_
  rw[show((p:Nat):Int)*4=((p*4:Nat):Int) by omega]
  refine b0F rfl Hb.o rfl (y0C W hW a s b4 b5 b x fr (p*4) (by omega) (by omega) hbits (c0R hnb1)) gSp (fun v ⟨t',ox⟩ ho=> ?_) (fun e t ho=>by(repeat (first|with_reducible refine a0G ?_|with_reducible refine a0M ?_));(obtain⟨t1,t2⟩:=t;obtain⟨hx,hm⟩:=p0X ho;obtain rfl:t2=none:=congrArg Prod.snd hx;have hm:_=(Out.err e,t1):=hm;simp only[RSo,List.cons_append,List.nil_append];exact a0Y (by rw[e0,a0Q hm];rfl) (fun _ _ h=>h) gSp))
  refine ns ?_
  refine go 1 ?_
  obtain⟨y,hx,hm⟩:=r0T ho
  obtain rfl:ox=some y:=congrArg Prod.snd hx
  have hm:_=(Out.ok y,t'):=hm
  have hpb:=s1K (a0T ((p*4-fr)*64)).length x fr (a0T ((p*4-fr)*64)) s
  rw[show j0C (a0T ((p*4-fr)*64)).length x fr (a0T ((p*4-fr)*64)) s=(Out.ok y,t')from hm]at hpb
  have hpb:t'.bits=s.bits:=hpb
  rw[a0A hm]at e0
  have hnb2:=o0E hnb1 hm
  simp only[RSo,List.cons_append,List.nil_append]
  refine go 2 ?_
  refine l0A (show Fnd _ (s1R a b4 b5 b y) _ from gFd) ?_
  simp only[List.cons_append,List.nil_append]
  refine l1E (.soft 0 (.soft 1 (.soft 2 (.soft 3 (.soft 4 (.soft 5 (.soft 6 (.soft 7 (.soft 9 (.soft 10 (.hard 8 (.hard 11 (.soft 12 (.soft 13 (.hard 14 .done))))))))))))))) [HLX a,mpC a,f0Z b4 a,c2I b5 b] Fol.o (by kernel_rfl) (by repeat (first|with_reducible exact a0J.bp|with_reducible apply a0J.then|with_reducible apply a0J.inBlock)) (i0W gSp) ?_
  refine go 4 ?_
  refine d0D rfl (e1C Sc.o rfl gFd (fun _ _=>rfl)) ?_
  refine go 6 ?_
  refine a0F (b0T Sc.o rfl rfl) ?_
  refine go 1 ?_
  refine j0N (i0W gSp) ?_
  refine go 1 ?_
  refine b0F rfl Hb.o rfl (v1T W hW a t' y.root p q (by omega) (c0R hnb2)) gSp (fun r t2 ho=> ?_) (fun e t ho=>by(repeat (first|with_reducible refine a0G ?_|with_reducible refine a0M ?_));(exact a0Y (show s0L (h0F x fr upto s)=(.err e,(t,none)) by rw[e0,a0Q ho];rfl) (fun _ _ h=>h) gSp))
  refine ns ?_
  refine go 1 ?_
  refine j0N (i0W gSp) ?_
  have hpb2:=m2B y.root p q t'
  rw[ho]at hpb2
  have hpb2:t2.bits=t'.bits:=hpb2
  have e1:=e0.trans (a0A ho)
  have hnb3:=o0E hnb2 ho
  clear ho
  refine go 3 ?_
  refine d0V (cs':=b0M {y with root:=r}) Sz.o rfl rfl rfl (by rfl) rfl ?_
  refine go 1 ?_
  refine j0N (i0W gSp) ?_
  refine go 6 ?_
  rw[show((q:Nat):Int)*4=((q*4:Nat):Int) by omega]
  refine go 1 ?_
  refine b0F rfl Hb.o rfl (y0C W hW a t2 b4 b5 b {y with root:=r} (q*4) upto (by omega) h2 (by omega) hnb3) gSp (fun v2 ⟨t4,oz⟩ ho=> ?_) (fun e t ho=>by(repeat (first|with_reducible refine a0G ?_|with_reducible refine a0M ?_));(obtain⟨t5,t6⟩:=t;obtain⟨hx,hm⟩:=p0X ho;obtain rfl:t6=none:=congrArg Prod.snd hx;have hm:_=(Out.err e,t5):=hm;simp only[RSo,List.cons_append,List.nil_append];exact a0Y (by rw[e1,hm];rfl) (fun _ _ h=>h) gSp))
  refine ns ?_
  refine go 1 ?_
  obtain⟨z,hx2,hm2⟩:=r0T ho
  obtain rfl:oz=some z:=congrArg Prod.snd hx2
  have hm2:_=(Out.ok z,t4):=hm2
  simp only[RSo,List.cons_append,List.nil_append]
  refine b0O (L':=s0K b z::(RS W a t4++ [R])) (fun w h=> ?_) ?_
  ·have h1:=h.sub (show b0L _ (s1R a b4 b5 b z::(RS W a t4++ [R])) _ from by simp only[List.cons_append,List.nil_append];exact gSp)
   have h2:=c0A.1 h1
   simp only[List.cons_append,List.nil_append]at h2 ⊢
   exact h2.sub gSp
  ·simp only[List.cons_append,List.nil_append]
   exact d0X (s:=(t4,some z)) (by rw[e1,hm2];rfl) rfl rfl gSp
end
section
attribute [local irreducible] Sl.a0L Sl.OW Sl.CW Sl.OS Sl.OM Sl.OMf Sl.KM
theorem c2J (W:World) (a:Ad) (s:St) (root:Int) (hbits:s.bits≤256) (hnb:(t0Q root 2 s).1≠ .big):a0S Tryz.prog 124 #[ptr a.maps,.int .i64 root] (RS W a s) (Ran fT (RS W a) k0P (t0Q root 2 s)):=by
 refine a0C Tryz.func124 rfl Tryz.ntmps124 rfl (fun R w0=> ?_)
 simp only[a0N,List.cons_append,List.nil_append]
 refine go 3 ?_
 refine b0F rfl Hb.o rfl (c1M W a 2 (by omega) s root hbits hnb) gSp (fun u t ho=> ?_) (fun e t ho=>by(repeat (first|with_reducible refine a0G ?_|with_reducible refine a0M ?_));exact a0Y (ho) (fun _ _ h=>h) gSp)
 refine ns ?_
 refine go 1 ?_
 exact d0X ho rfl rfl gSp
theorem s1S {s:St} {k:Int} (h:(n0G k s).1≠ .big):s.log.length<1000000000:=s0G h fun h'=>by simp[n0G,a0B,back,h']
theorem v1U {s:St} (k:Int) (h:s.log.length<1000000000):n0G k s=(.ok (),{s with log:=bk s.depth s.log (.vols k (a0H k s.vols)),vols:=b0I k s.vols}):=by
 simp[n0G,a0B,back,show ¬1000000000≤s.log.length by omega]
abbrev idA0 (a:Ad) (b0 b1:Nat) (id:Int):a0E:=b0R [f0Z b0 a,j0G b1 id]
theorem s1T (W:World) (a:Ad) (b0 b1:Nat) (id:Int) (bits:Nat) (hbits:bits≤256):
 q0J W a (idA0 a b0 b1 id) (fun _:Unit=>b0R []) 122 [ptr b0,ptr b1] bits (p0H id):=by
 intro s hsb hnb
 have e0:p0H id s=a0B (find id) (fun x=>a0B (n0G id) fun _=>t0Q x.root 2) s:=rfl
 simp only[List.cons_append,List.nil_append]
 refine a0C Tryz.func122 rfl Tryz.ntmps122 rfl (fun R w0=> ?_)
 simp only[a0N,List.cons_append,List.nil_append]
 refine l0A (show Fnd _ (b0R [f0Z b0 a,j0G b1 id]) _ from gFd) ?_
 simp only[List.cons_append,List.nil_append]
 refine go 4 ?_
 refine b0F rfl Hb.o rfl (u0D W a s id) gSp (fun x t ho=> ?_) (fun e t ho=>by(repeat (first|with_reducible refine a0G ?_|with_reducible refine a0M ?_));(refine b0O (fun w h=>c0D h) ?_;exact a0Y (c0U (e0.trans (a0Q ho))) (fun _ _ h=>h) gSp))
 refine ns ?_
 have hts:t=s:=by have h:=ho;unfold find at h;split at h<;>cases h;rfl
 rw[hts]at ho ⊢
 have e1:=e0.trans (a0A ho)
 clear ho hts
 have hn:=s1S (show(n0G id s).1≠ .big by rw[e1]at hnb;exact c0R hnb)
 rw[a0A (v1U id hn)]at e1
 refine(a0U Zr.o (fun b2=> ?_))
 refine a0K Sz.o rfl rfl rfl (by simp[b0M,Value.oneCell']) (by simp[b0M,Value.cells]) (a0R (by simp[b0M,Value.cells])) ?_
 refine go 3 ?_
 refine f0F gFd fun by_ gv gc o hg hok=> ?_
 simp only[e0A,p0T,d0I,List.cons_append,List.nil_append]
 refine d0S 12 Fol.o (by kernel_rfl) ?_
 simp only[List.take_succ_cons,List.take_zero,List.drop_succ_cons,List.drop_zero]
 refine go 13 ?_
 refine a0W rfl Hb.o rfl (p1Q a by_ o s.log s.depth s.vols id hn) gSp ?_
 rintro e _
 refine ns ?_
 refine go 1 ?_
 refine b0O (d0Q (s:= {s with log:=bk s.depth s.log (.vols id (a0H id s.vols)),vols:=b0I id s.vols}) hg hok gSp) ?_
 refine go 1 ?_
 refine d0S 6 Fol.o (by kernel_rfl) ?_
 simp only[List.take_succ_cons,List.take_zero,List.drop_succ_cons,List.drop_zero]
 refine go 3 ?_
 refine c0K (k0W Sc.o rfl gFd rfl) ?_
 refine go 3 ?_
 refine b0F rfl Hb.o rfl (c2J W a {s with log:=bk s.depth s.log (.vols id (a0H id s.vols)),vols:=b0I id s.vols} x.root (by show s.bits≤256;omega) (by rw[e1]at hnb;exact hnb)) gSp (fun v t2 ho=> ?_) (fun e t ho=>by(repeat (first|with_reducible refine a0G ?_|with_reducible refine a0M ?_));(refine b0O (fun w h=>c0D h) ?_;exact a0Y (c0U (e1.trans ho)) (fun _ _ h=>h) gSp))
 refine ns ?_
 refine go 1 ?_
 refine b0O (fun w h=>c0D h) ?_
 exact d0X (s:=(t2,.done ())) (m0A (e1.trans ho)) rfl rfl gSp
theorem s1U (W:World) (a:Ad) (s:St) (id:Int) (hbits:s.bits≤256) (hvl:s.vols.length≤1000) (hnb:(r0F id s).1≠ .big):
 a0S Tryz.prog 74 #[ptr a.core,.int .u32 id] (RS W a s) (Ran fT (RS W a) a0V (r0F id s)):=by
 have e0:r0F id s=a0B (i0I (e0V 0 (p0H id))) (fun r=>ret r.1) s:=rfl
 refine a0C Tryz.func74 rfl Tryz.ntmps74 rfl (fun R w0=> ?_)
 simp only[a0N,List.cons_append,List.nil_append]
 refine go 2 ?_
 refine(a0X rfl (fun b2=> ?_))
 refine(a0X rfl (fun b3=> ?_))
 refine go 7 ?_
 refine e0Y (l0O (N:= [f0Z b2 a,j0G b3 id]) gSp) ?_
 refine b0F rfl Hb.o rfl (u0F W a (idA0 a b2 b3 id) (fun _:Unit=>b0R []) 0 122 [ptr b2,ptr b3] (p0H id) s Hb.o (by omega) hvl (s1T W a b2 b3 id s.bits hbits) (by rw[e0]at hnb;exact c0R hnb)) gSp (fun e ⟨t,oc⟩ ho=> ?_) (fun e t ho=>by(repeat (first|with_reducible refine a0G ?_|with_reducible refine a0M ?_));(exact(m0Z ho).elim))
 refine ns ?_
 refine go 3 ?_
 exact c0I (e0.trans (a0A (t0I ho))) (fun _ _ h=>h) rfl rfl gSp
abbrev s1V (a:Ad) (b0 b1 b2:Nat) (id size:Int):a0E:=b0R [f0Z b0 a,j0G b1 id,f0M b2 size]
theorem s1W (W:World) (hW:h0L W) (a:Ad) (b0 b1 b2:Nat) (id size:Int) (bits:Nat) (hbits:bits≤256):
 q0J W a (s1V a b0 b1 b2 id size) (fun _:Unit=>b0R []) 72 [ptr b0,ptr b1,ptr b2] bits (l0F id size):=by
 intro s hsb hnb
 have e0:l0F id size s=a0B (l0C id) (fun x=>if size<1∨2048<size then n0F 4 else a0B (if size<x.size then h0F x size.toNat x.size.toNat else ret x) fun y=>l0K {y with size:=size}) s:=rfl
 simp only[List.cons_append,List.nil_append]
 refine a0C Tryz.func72 rfl Tryz.ntmps72 rfl (fun R w0=> ?_)
 simp only[a0N,List.cons_append,List.nil_append]
 refine l0A (show Fnd _ (b0R [f0Z b0 a,j0G b1 id,f0M b2 size]) _ from gFd) ?_
 simp only[List.cons_append,List.nil_append]
 refine go 4 ?_
 refine b0F rfl Hb.o rfl (a1J W a s id) gSp (fun x t ho=> ?_) (fun e t ho=>by(repeat (first|with_reducible refine a0G ?_|with_reducible refine a0M ?_));(refine b0O (fun w h=>c0D h) ?_;exact a0Y (c0U (e0.trans (a0Q ho))) (fun _ _ h=>h) gSp))
 refine ns ?_
 have hpb:=g1N id s
 rw[ho]at hpb
 have hpb:t.bits=s.bits:=hpb
 have e1:=e0.trans (a0A ho)
 clear ho
 refine(a0U Zr.o (fun b3=> ?_))
 refine a0K Sz.o rfl rfl rfl (by simp[b0M,Value.oneCell']) (by simp[b0M,Value.cells]) (a0R (by simp[b0M,Value.cells])) ?_
 refine go 4 ?_
 by_cases hs1:size<1
 ·refine go 10 ?_
  refine c0S (fun w h=>c0D h) ?_
  refine go 1 ?_
  refine c0M rfl Hb.o rfl (d0C 4) gSp ?_
  simp only[List.cons_append,List.nil_append]
  refine pn ?_
  exact a0Y (c0U (e1.trans (by rw[if_pos (.inl hs1)];rfl))) (fun _ _ h=>h) gSp
 ·refine go 9 ?_
  refine b0C rfl (fun hb12=> ?_) (fun hb12=> ?_)
  ·have hs2:2048<size:=by have h:=hb12;simp only[decide_eq_true_eq]at h;exact h
   refine c0S (fun w h=>c0D h) ?_
   refine go 1 ?_
   refine c0M rfl Hb.o rfl (d0C 4) gSp ?_
   simp only[List.cons_append,List.nil_append]
   refine pn ?_
   exact a0Y (c0U (e1.trans (by rw[if_pos (.inr hs2)];rfl))) (fun _ _ h=>h) gSp
  ·have hs2: ¬2048<size:=by have h:=hb12;simp only[decide_eq_false_iff_not]at h;exact h
   rw[if_neg (by omega)]at e1
   refine go 11 ?_
   refine b0C rfl (fun hb17=> ?_) (fun hb17=> ?_)
   ·have hlt:size<x.size:=of_decide_eq_true hb17
    rw[if_pos hlt]at e1
    obtain⟨k,rfl⟩: ∃k:Nat,size=k:=⟨size.toNat,by omega⟩
    obtain⟨m,hm⟩: ∃m:Nat,x.size=m:=⟨x.size.toNat,by omega⟩
    rw[hm,Int.toNat_natCast,Int.toNat_natCast]at e1
    refine go 5 ?_
    rw[hm]
    refine b0F rfl Hb.o rfl (f1C W hW a t b3 x k m (by omega) (by omega) (by rw[e1]at hnb;exact c0R hnb)) gSp (fun v ⟨t3,ox⟩ ho=> ?_) (fun e t ho=>by(repeat (first|with_reducible refine a0G ?_|with_reducible refine a0M ?_));(obtain⟨t1,t2⟩:=t;obtain⟨hx,hm⟩:=p0X ho;obtain rfl:t2=none:=congrArg Prod.snd hx;have hm:_=(Out.err e,t1):=hm;simp only[RSo,List.cons_append,List.nil_append];have e4:l0F id (k:Int) s=(.err e,t1):=e1.trans (a0Q hm);refine b0O (fun w h=>c0D h) ?_;exact a0Y (c0U e4) (fun _ _ h=>h) gSp))
    refine ns ?_
    refine go 1 ?_
    obtain⟨y,hx,hm4⟩:=r0T ho
    obtain rfl:ox=some y:=congrArg Prod.snd hx
    have hm4:_=(Out.ok y,t3):=hm4
    simp only[RSo,List.cons_append,List.nil_append]
    have e3:l0F id (k:Int) s=l0K {y with size:=(k:Int)} t3:=e1.trans (a0A hm4)
    refine go 5 ?_
    refine d0V (cs':=b0M {y with size:=(k:Int)}) Sz.o rfl rfl rfl (by rfl) rfl ?_
    refine go 4 ?_
    refine a0F (a0O Ag.o rfl (by simp[b0M]) (a0I (by simp[b0M]))) ?_
    refine b0F rfl Hb.o rfl (u0E W a t3 {y with size:=(k:Int)} (by rw[e3]at hnb;exact hnb)) gSp (fun v2 t4 ho=> ?_) (fun e t ho=>by(repeat (first|with_reducible refine a0G ?_|with_reducible refine a0M ?_));(refine b0O (fun w h=>c0D h) ?_;exact a0Y (c0U (e3.trans ho)) (fun _ _ h=>h) gSp))
    refine ns ?_
    refine go 1 ?_
    refine b0O (fun w h=>c0D h) ?_
    exact d0X (s:=(t4,.done ())) (m0A (e3.trans ho)) rfl rfl gSp
   ·have hlt: ¬size<x.size:=of_decide_eq_false hb17
    rw[if_neg hlt,a0A (show ret x t=(.ok x,t)from rfl)]at e1
    have e3:l0F id size s=l0K {x with size:=size} t:=e1
    refine go 6 ?_
    refine d0V (cs':=b0M {x with size:=size}) Sz.o rfl rfl rfl (by rfl) rfl ?_
    refine go 4 ?_
    refine a0F (a0O Ag.o rfl (by simp[b0M]) (a0I (by simp[b0M]))) ?_
    refine b0F rfl Hb.o rfl (u0E W a t {x with size:=size} (by rw[e3]at hnb;exact hnb)) gSp (fun v2 t4 ho=> ?_) (fun e t ho=>by(repeat (first|with_reducible refine a0G ?_|with_reducible refine a0M ?_));(refine b0O (fun w h=>c0D h) ?_;exact a0Y (c0U (e3.trans ho)) (fun _ _ h=>h) gSp))
    refine ns ?_
    refine go 1 ?_
    refine b0O (fun w h=>c0D h) ?_
    exact d0X (s:=(t4,.done ())) (m0A (e3.trans ho)) rfl rfl gSp
end
section
attribute [local irreducible] Sl.a0L Sl.OW Sl.CW Sl.OS Sl.OM Sl.OMf Sl.KM
theorem s1X (W:World) (hW:h0L W) (a:Ad) (s:St) (id size:Int) (hbits:s.bits≤256) (hvl:s.vols.length≤1000) (hnb:(r0G id size s).1≠ .big):
 a0S Tryz.prog 23 #[ptr a.core,.int .u32 id,.int .i64 size] (RS W a s) (Ran fT (RS W a) a0V (r0G id size s)):=by
 have e0:r0G id size s=a0B (i0I (e0V 0 (l0F id size))) (fun r=>ret r.1) s:=rfl
 refine a0C Tryz.func23 rfl Tryz.ntmps23 rfl (fun R w0=> ?_)
 simp only[a0N,List.cons_append,List.nil_append]
 refine go 2 ?_
 refine(a0X rfl (fun b3=> ?_))
 refine(a0X rfl (fun b4=> ?_))
 refine(a0X rfl (fun b5=> ?_))
 refine go 7 ?_
 refine e0Y (l0O (N:= [f0Z b3 a,j0G b4 id,f0M b5 size]) gSp) ?_
 refine b0F rfl Hb.o rfl (u0F W a (s1V a b3 b4 b5 id size) (fun _:Unit=>b0R []) 0 72 [ptr b3,ptr b4,ptr b5] (l0F id size) s Hb.o (by omega) hvl (s1W W hW a b3 b4 b5 id size s.bits hbits) (by rw[e0]at hnb;exact c0R hnb)) gSp (fun e ⟨t,oc⟩ ho=> ?_) (fun e t ho=>by(repeat (first|with_reducible refine a0G ?_|with_reducible refine a0M ?_));(exact(m0Z ho).elim))
 refine ns ?_
 refine go 3 ?_
 exact c0I (e0.trans (a0A (t0I ho))) (fun _ _ h=>h) rfl rfl gSp
abbrev g2Y (a:Ad) (b0 b1 b2 b3:Nat) (id at_ n:Int):a0E:=b0R [f0Z b0 a,j0G b1 id,f0M b2 at_,f0M b3 n]
theorem c2K (W:World) (hW:h0L W) (a:Ad) (b0 b1 b2 b3:Nat) (id at_ n:Int) (bits:Nat) (hbits:bits≤256):
 q0J W a (g2Y a b0 b1 b2 b3 id at_ n) (fun _:Unit=>b0R []) 70 [ptr b0,ptr b1,ptr b2,ptr b3] bits (q0K id at_ n):=by
 intro s hsb hnb
 have e0:q0K id at_ n s=a0B (l0C id) (fun x=>a0B (g0T x at_ n) fun _=>a0B (h0F x at_.toNat (at_+n).toNat) l0K) s:=rfl
 simp only[List.cons_append,List.nil_append]
 refine a0C Tryz.func70 rfl Tryz.ntmps70 rfl (fun R w0=> ?_)
 simp only[a0N,List.cons_append,List.nil_append]
 refine l0A (show Fnd _ (b0R [f0Z b0 a,j0G b1 id,f0M b2 at_,f0M b3 n]) _ from gFd) ?_
 simp only[List.cons_append,List.nil_append]
 refine go 4 ?_
 refine b0F rfl Hb.o rfl (a1J W a s id) gSp (fun x t ho=> ?_) (fun e t ho=>by(repeat (first|with_reducible refine a0G ?_|with_reducible refine a0M ?_));(refine b0O (fun w h=>c0D h) ?_;exact a0Y (c0U (e0.trans (a0Q ho))) (fun _ _ h=>h) gSp))
 refine ns ?_
 have hpb:=g1N id s
 rw[ho]at hpb
 have hpb:t.bits=s.bits:=hpb
 have e1:=e0.trans (a0A ho)
 clear ho
 refine(a0U Zr.o (fun b4=> ?_))
 refine a0K Sz.o rfl rfl rfl (by simp[b0M,Value.oneCell']) (by simp[b0M,Value.cells]) (a0R (by simp[b0M,Value.cells])) ?_
 refine go 4 ?_
 refine a0F (a0O Ag.o rfl (by simp[b0M]) (a0I (by simp[b0M]))) ?_
 refine go 2 ?_
 refine b0F rfl Hb.o rfl (y0B W a t x at_ n (by rw[e1]at hnb;exact c0R hnb)) gSp (fun v t2 ho=> ?_) (fun e t ho=>by(repeat (first|with_reducible refine a0G ?_|with_reducible refine a0M ?_));(refine b0O (fun w h=>c0D h) ?_;exact a0Y (c0U (e1.trans (a0Q ho))) (fun _ _ h=>h) gSp))
 refine ns ?_
 refine go 1 ?_
 obtain⟨h1,h2,h3,h4,h5⟩:=u0X ho
 rw[h1]at ho ⊢
 have e2:=e1.trans (a0A ho)
 clear ho
 obtain⟨k,rfl⟩: ∃k:Nat,at_=k:=⟨at_.toNat,by omega⟩
 obtain⟨m,rfl⟩: ∃k:Nat,n=k:=⟨n.toNat,by omega⟩
 rw[Int.toNat_natCast,show(((k:Nat):Int)+((m:Nat):Int)).toNat=k+m by omega]at e2
 refine go 8 ?_
 rw[show((k:Nat):Int)+((m:Nat):Int)=((k+m:Nat):Int) by omega]
 refine b0F rfl Hb.o rfl (f1C W hW a t b4 x k (k+m) (by omega) (by omega) (by rw[e2]at hnb;exact c0R hnb)) gSp (fun v ⟨t3,ox⟩ ho=> ?_) (fun e t ho=>by(repeat (first|with_reducible refine a0G ?_|with_reducible refine a0M ?_));(obtain⟨t1,t2⟩:=t;obtain⟨hx,hm⟩:=p0X ho;obtain rfl:t2=none:=congrArg Prod.snd hx;have hm:_=(Out.err e,t1):=hm;simp only[RSo,List.cons_append,List.nil_append];have e4:q0K id (k:Int) (m:Int) s=(.err e,t1):=e2.trans (a0Q hm);refine b0O (fun w h=>c0D h) ?_;exact a0Y (c0U e4) (fun _ _ h=>h) gSp))
 refine ns ?_
 refine go 1 ?_
 obtain⟨y,hx,hm⟩:=r0T ho
 obtain rfl:ox=some y:=congrArg Prod.snd hx
 have hm:_=(Out.ok y,t3):=hm
 simp only[RSo,List.cons_append,List.nil_append]
 have e3:q0K id (k:Int) (m:Int) s=l0K y t3:=e2.trans (a0A hm)
 refine go 3 ?_
 refine a0F (a0O Ag.o rfl (by simp[b0M]) (a0I (by simp[b0M]))) ?_
 refine b0F rfl Hb.o rfl (u0E W a t3 y (by rw[e3]at hnb;exact hnb)) gSp (fun v t4 ho=> ?_) (fun e t ho=>by(repeat (first|with_reducible refine a0G ?_|with_reducible refine a0M ?_));(refine b0O (fun w h=>c0D h) ?_;exact a0Y (c0U (e3.trans ho)) (fun _ _ h=>h) gSp))
 refine ns ?_
 refine go 1 ?_
 refine b0O (fun w h=>c0D h) ?_
 exact d0X (s:=(t4,.done ())) (m0A (e3.trans ho)) rfl rfl gSp
theorem c2L (W:World) (hW:h0L W) (a:Ad) (s:St) (id at_ n:Int) (hbits:s.bits≤256) (hvl:s.vols.length≤1000) (hnb:(w0Q id at_ n s).1≠ .big):
 a0S Tryz.prog 22 #[ptr a.core,.int .u32 id,.int .i64 at_,.int .i64 n] (RS W a s) (Ran fT (RS W a) a0V (w0Q id at_ n s)):=by
 have e0:w0Q id at_ n s=a0B (i0I (e0V 0 (q0K id at_ n))) (fun r=>ret r.1) s:=rfl
 refine a0C Tryz.func22 rfl Tryz.ntmps22 rfl (fun R w0=> ?_)
 simp only[a0N,List.cons_append,List.nil_append]
 refine go 2 ?_
 refine(a0X rfl (fun b4=> ?_))
 refine(a0X rfl (fun b5=> ?_))
 refine(a0X rfl (fun b6=> ?_))
 refine(a0X rfl (fun b7=> ?_))
 refine go 7 ?_
 refine e0Y (l0O (N:= [f0Z b4 a,j0G b5 id,f0M b6 at_,f0M b7 n]) gSp) ?_
 refine b0F rfl Hb.o rfl (u0F W a (g2Y a b4 b5 b6 b7 id at_ n) (fun _:Unit=>b0R []) 0 70 [ptr b4,ptr b5,ptr b6,ptr b7] (q0K id at_ n) s Hb.o (by omega) hvl (c2K W hW a b4 b5 b6 b7 id at_ n s.bits hbits) (by rw[e0]at hnb;exact c0R hnb)) gSp (fun e ⟨t,oc⟩ ho=> ?_) (fun e t ho=>by(repeat (first|with_reducible refine a0G ?_|with_reducible refine a0M ?_));(exact(m0Z ho).elim))
 refine ns ?_
 refine go 3 ?_
 exact c0I (e0.trans (a0A (t0I ho))) (fun _ _ h=>h) rfl rfl gSp
theorem v1V (W:World) (a:Ad) (s:St) (id:Int) (hvl:s.vols.length≤1000) (hnb:(h0X id false s).1≠ .big):a0S Tryz.prog 44 #[ptr a.core,.int .u32 id] (RS W a s) (Ran fT (RS W a) x0N (h0X id false s)):=by
 refine a0C Tryz.func44 rfl Tryz.ntmps44 rfl (fun R w0=> ?_)
 simp only[a0N,List.cons_append,List.nil_append]
 refine go 10 ?_
 refine b0F rfl Hb.o rfl (j1I W a s id false hvl hnb) gSp (fun p t ho=> ?_) (fun e t ho=>by(repeat (first|with_reducible refine a0G ?_|with_reducible refine a0M ?_));exact a0Y (ho) (fun _ _ h=>h) gSp)
 refine ns ?_
 refine go 6 ?_
 exact c0I ho (fun _ _ h=>h) rfl rfl gSp
theorem v1W (W:World) (a:Ad) (s:St) (n:Int):a0S Tryz.prog 47 #[ptr a.core,.int .u32 n] (RS W a s) (b0G (.tuple #[]) (RS W a {s with epoch:=n})):=by
 refine a0C Tryz.func47 rfl Tryz.ntmps47 rfl (fun R w0=> ?_)
 simp only[a0N,List.cons_append,List.nil_append]
 refine f0F gFd fun by_ gv gc o hg hok=> ?_
 simp only[e0A,p0T,d0I,List.cons_append,List.nil_append]
 refine go 7 ?_
 refine b0O (d0Q (s:= {s with epoch:=n}) hg hok gSp) (e0N rfl rfl gSp)
end
end Go.Proofs.Q

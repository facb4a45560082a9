/- Part of the proof; no statement of its own. -/
import Derived.Test.YtpinhnikemamjaaGreatDoorN18
import Derived.Test.YtpinhnikemamjaaGreatDoorN29
import Derived.Test.YtpinhnikemamjaaGreatDoorN23
import Derived.Test.YtpinhnikemamjaaGreatDoorN30
import Derived.Test.YtpinhnikemamjaaGreatDoorN06
import Derived.Test.YtpinhnikemamjaaGreatDoorN13
import Derived.Test.YtpinhnikemamjaaGreatDoorN28
import Derived.Test.YtpinhnikemamjaaGreatDoorN16
import Derived.Test.YtpinhnikemamjaaGreatDoorN26
set_option linter.all false
set_option maxRecDepth 4000
set_option maxHeartbeats 4000000
attribute [local irreducible] Go.Sl.a0O Go.Sl.OW Go.Sl.CW Go.Sl.OS Go.Sl.OM Go.Sl.OMf Go.Sl.KM
namespace Go.Proofs.Q
open Go.Sl Go.Sb Tryz
abbrev y2B (x:Nat×Int):Value:= .agg #[.int .i64 x.1,.int .i64 x.2]
def JB {C:Type} (J Jx:C→a0C) (p:Bool×C):a0C:=if p.1 then J p.2 else Jx p.2
theorem p2E {C:Type} {J Jx:C→a0C} {p:Bool×C} (h:p.1=true):JB J Jx p=J p.2:=by unfold JB;rw[if_pos h]
theorem p2F {C:Type} {J Jx:C→a0C} {p:Bool×C} (h:p.1=false):JB J Jx p=Jx p.2:=by unfold JB;rw[if_neg (by rw[h];simp)]
abbrev f2E {C:Type} (r:Nat) (J Jx:C→a0C) (see:Nat×Int→C→Bool×C) (m:C→Nat) (bd:Nat):Prop:= ∀x c,m c<bd→a1O prog r #[y2B x] [J c] (fun e L'=>e= .returned (.bool (see x c).1)∧L'= [JB J Jx (see x c)])
abbrev e1T (W:World) (a:Ad) (s:St) {C:Type} (r:Nat) (J Jx:C→a0C) (see:Nat×Int→C→Bool×C) (m:C→Nat) (bd:Nat) (level:Nat):Prop:= ∀(at_:Int) (from_:Nat) (c:C) (ys:List (Nat×Int)),lvs level from_ at_ s=some ys→m c+ys.length≤bd→from_+1000*level≤100000→
 a0F prog 256 #[ptr a.maps,.int .i64 at_,.int .i64 level,.int .i64 from_,.func (.yield r) #[] #[]] (RS W a s++ [J c]) (a0T (.bool (f0Y see ys c).1) (RS W a s++ [JB J Jx (f0Y see ys c)]))
theorem p2G {g:Nat→Int→Option (List (Nat×Int))} {i:Nat} {kids:List Int} {ys:List (Nat×Int)} (hi:i<kids.length) (h:lvK g i (kids.drop i)=some ys): ∃a b,g i (kids.getD i 0)=some a∧lvK g (i+1) (kids.drop (i+1))=some b∧ys=a++b:=by
 rw[List.drop_eq_getElem_cons hi]at h;unfold lvK at h;obtain⟨a,h1,h2⟩:=Option.bind_eq_some_iff.1 h;obtain⟨b,h3,h4⟩:=Option.map_eq_some_iff.1 h2;exact⟨a,b,by rw[List.getD_eq_getElem?_getD,List.getElem?_eq_getElem hi];exact h1,h3,h4.symm⟩
theorem e1U {C:Type} (see:Nat×Int→C→Bool×C) (x:Nat×Int) (l:List (Nat×Int)) (c:C):f0Y see (x::l) c=if(see x c).1 then f0Y see l (see x c).2 else(false,(see x c).2):=rfl
theorem n1U {C:Type} {see:Nat×Int→C→Bool×C} {mu:C→Nat} (hmu: ∀x c,mu (see x c).2≤mu c+1): ∀(l:List (Nat×Int)) (c:C),mu (f0Y see l c).2≤mu c+l.length
 | [],c=>by show mu c≤_;omega
 |x::l,c=>by
  rw[e1U];have h1:=hmu x c;split
  ·have h2:=n1U hmu l (see x c).2;simp only[List.length_cons];omega
  ·simp only[List.length_cons];omega
theorem p2H {C:Type} (see:Nat×Int→C→Bool×C) (c:C):f0Y see [] c=(true,c):=rfl
theorem u2L {s:St} {from_ level i:Nat} {k:Int} {xs:List (Nat×Int)} (hk:k=0) (h:f1L s from_ level i k=some xs):xs= []:=by
 subst hk;cases level<;>exact(Option.some.inj h).symm
theorem u2M {s:St} {from_ level i:Nat} {k:Int} {xs:List (Nat×Int)} (hl:level=0) (hk: ¬k=0) (h:f1L s from_ level i k=some xs):xs= [(from_+i,k)]:=by
 subst hl;have h1:some (if k=0 then []else [(from_+i,k)])=some xs:=h;rw[if_neg hk]at h1;exact(Option.some.inj h1).symm
theorem u2N {s:St} {from_ m i:Nat} {k:Int} {xs:List (Nat×Int)} (hk: ¬k=0) (h:f1L s from_ (m+1) i k=some xs):lvs m (from_+i*8^(m+1)) k s=some xs:=by
 have h1:(if k=0 then some []else lvs m (from_+i*8^(m+1)) k s)=some xs:=h
 rwa [if_neg hk]at h1
theorem pow8 {l:Nat} (h:l<3):1≤8^l∧8^l≤64∧8^(l+1)/8=8^l:=by
 rcases l with _|_|_|l
 ·decide
 ·decide
 ·decide
 ·omega
theorem g1W (W:World) (a:Ad) (s:St) {C:Type} (r:Nat) (J Jx:C→a0C) (see:Nat×Int→C→Bool×C) (mu:C→Nat) (bd:Nat) (hmu: ∀x c,mu (see x c).2≤mu c+1) (hy:f2E r J Jx see mu bd) (level:Nat) (hl:level<3) (ih: ∀m,level=m+1→e1T W a s r J Jx see mu bd m):e1T W a s r J Jx see mu bd level:=by
 intro at_ from_ c ys hv hbd hf;rw[v2U]at hv;obtain⟨n,hn⟩: ∃n,(Go.Sb.load at_ level s).1= .ok n:=by
  cases ho:(Go.Sb.load at_ level s).1 with
  |ok n=>exact⟨n,rfl⟩
  |err e=>rw[ho]at hv;cases hv
  |big=>rw[ho]at hv;cases hv
 rw[hn]at hv;have hv:lvK (f1L s from_ level) 0 n.kids=some ys:=hv;have hload:Go.Sb.load at_ level s=(.ok n,s):=by
  have h1:Go.Sb.load at_ level s=(.ok n,(Go.Sb.load at_ level s).2):=by rw[←hn]
  have h2:=(h0U h1).1;rw[h1,h2]
 have hln:=(h0U hload).2;have k:=q0N W a s at_ level;rw[hload]at k;have kload:=k.ran_ok;have h8:n.kids.length=8:=hln.n;obtain⟨p1,p2,p3⟩:=pow8 hl;obtain⟨sp,hsp⟩: ∃sp,sp=8^level:=⟨_,rfl⟩;rw[←hsp]at p1 p2 p3;refine ns ?_;refine en func256 ntmps256 fun R w0=> ?_;refine cg 8 (p1H level hl) ?_;refine go 1 ?_;rw[show(((8^(level+1):Nat):Int))/8=(sp:Int) by omega];refine cg 9 (kload) ?_;refine a0D (o0Q (v:=(n.kids.map a0J).toArray) F.fa182_1 rfl (i1W hln)) ?_;refine go 4 ?_;refine a0V (X:= {y:Nat×C×List (Nat×Int) // y.1≤8∧lvK (f1L s from_ level) y.1 (n.kids.drop y.1)=some y.2.2∧mu y.2.1+y.2.2.length≤bd∧f0Y see ys c=f0Y see y.2.2 y.2.1}) (fun y=> [(0,ptr a.maps),(2,.int .i64 level),(3,.int .i64 from_),(4,.func (.yield r) #[] #[]),(11,.int .i64 sp),(21,.agg (n.kids.map a0J).toArray),(22,.int .i64 y.1.1)]) (fun y=>RS W a s++ [J y.1.2.1,R]) (fun y=>8-y.1.1) ⟨(0,c,ys),Nat.zero_le 8,hv,hbd,rfl⟩ gSu gSp ?_;rintro⟨⟨i,c',zs⟩,hi,hz,hb,he⟩ m0 hm0
 try simp only at hm0
 try dsimp only
 simp only at hi hz hb he;refine ns ?_;refine go 6 ?_;refine a0P rfl (fun hb23=> ?_) (fun hb23=> ?_)
 ·have hi8:i<8:=by have:=of_decide_eq_true hb23;omega
  obtain⟨xs,ws,h1,h2,rfl⟩:=p2G (by omega) hz;rw[List.length_append]at hb;refine go 7 ?_;refine a0D (p0V Tar.o Sc.o rfl rfl (by omega) (j0I a0J n.kids i _ (by omega) (by omega))) ?_;rw[←b1W (l:=n.kids) (by omega)];refine go 6 ?_;by_cases hk:n.kids.getD i 0=0
  ·refine go 6 ?_;refine d0R rfl (by rw[hk];rfl) ?_;refine go 6 ?_;have hx0:xs= []:=u2L hk h1;rw[hx0,List.nil_append]at he;exact rd idh (⟨(i+1,c',ws),by(show i+1≤8);omega,h2,by(show mu c'+ws.length≤bd);omega,he⟩)
  ·refine go 6 ?_;refine b0R rfl (by simpa using hk) ?_;refine go 1 ?_;by_cases hlv:level=0
   ·refine go 6 ?_;refine d0R rfl (by rw[hlv];rfl) ?_;refine go 1 ?_;have hx1:xs= [(from_+i,n.kids.getD i 0)]:=u2M hlv hk h1;have hm1:=hmu (from_+i,n.kids.getD i 0) c';rw[hx1,List.length_singleton]at hb;rw[hx1,List.singleton_append,e1U]at he;refine a1P ?_;refine t0N (d0V rfl) ?_;refine t0N (d0V rfl) ?_;refine t0N (d0V rfl) ?_;refine t0N (q1W rfl rfl (by omega)) ?_;rw[show((from_:Nat):Int)+((i:Nat):Int)=((from_+i:Nat):Int) by omega];refine t0N (d0V rfl) ?_;refine t0N (s0B Pl.o rfl (by simp[l0Y,nth,Value.cells]<;>rfl)) ?_;refine h1J rfl rfl (hy (from_+i,n.kids.getD i 0) c' (by omega)) gSp ?_;refine ns ?_;refine t0N (a1H rfl) ?_;refine r1G ?_;refine go 1 ?_;refine a0P rfl (fun hb39=> ?_) (fun hb39=> ?_)
    ·have hs1:(see (from_+i,n.kids.getD i 0) c').1=false:=by have h:=hb39;simpa using h
     rw[if_neg (by rw[hs1];simp)]at he;rw[p2F hs1,he];refine go 5 ?_;exact rG
    ·have hs1:(see (from_+i,n.kids.getD i 0) c').1=true:=by have h:=hb39;simpa using h
     rw[if_pos hs1]at he;rw[p2E hs1];refine go 6 ?_;exact rd idh (⟨(i+1,(see (from_+i,n.kids.getD i 0) c').2,ws),by(show i+1≤8);omega,h2,by(show mu (see (from_+i,n.kids.getD i 0) c').2+ws.length≤bd);omega,he⟩)
   ·refine go 8 ?_;obtain⟨m,rfl⟩: ∃m,level=m+1:=⟨level-1,by omega⟩;have hx2:lvs m (from_+i*sp) (n.kids.getD i 0) s=some xs:=by rw[hsp];exact u2N hk h1
    have hmul:i*sp≤7*64:=Nat.mul_le_mul (by omega) p2;refine go 5 ?_;rw[show(((m+1:Nat):Int))-1=(m:Int) by omega];refine go 5 ?_;rw[show((from_:Nat):Int)+((i:Nat):Int)*((sp:Nat):Int)=((from_+i*sp:Nat):Int) by rw[Int.natCast_add,Int.natCast_mul]];refine cg 1 (ih m rfl (n.kids.getD i 0) (from_+i*sp) c' xs hx2 (by omega) (by omega)) ?_;refine go 1 ?_;rw[s1S]at he;have hm1:=n1U hmu xs c';refine go 3 ?_;refine a0P rfl (fun hb40=> ?_) (fun hb40=> ?_)
    ·have hs1:(f0Y see xs c').1=false:=by have h:=hb40;simpa using h
     rw[if_neg (by rw[hs1];simp)]at he;rw[p2F hs1,he];refine go 5 ?_;exact rG
    ·have hs1:(f0Y see xs c').1=true:=by have h:=hb40;simpa using h
     rw[if_pos hs1]at he;rw[p2E hs1];refine go 6 ?_;exact rd idh (⟨(i+1,(f0Y see xs c').2,ws),by(show i+1≤8);omega,h2,by(show mu (f0Y see xs c').2+ws.length≤bd);omega,he⟩)
 ·obtain rfl:i=8:=by have:=of_decide_eq_false hb23;omega
  have hz0:zs= []:=by rw[List.drop_of_length_le (by omega)]at hz;unfold lvK at hz;exact(Option.some.inj hz).symm
  rw[hz0,p2H]at he;rw[he];refine go 7 ?_;exact rG
theorem q1A (W:World) (a:Ad) (s:St) {C:Type} (r:Nat) (J Jx:C→a0C) (see:Nat×Int→C→Bool×C) (mu:C→Nat) (bd:Nat) (hmu: ∀x c,mu (see x c).2≤mu c+1) (hy:f2E r J Jx see mu bd): ∀level,level<3→e1T W a s r J Jx see mu bd level
 |0,h=>g1W W a s r J Jx see mu bd hmu hy 0 h (fun m e=>by omega)
 |l+1,h=>g1W W a s r J Jx see mu bd hmu hy (l+1) h (fun m e=>by have e':m=l:=(Nat.succ.inj e).symm;rw[e'];exact q1A W a s r J Jx see mu bd hmu hy l (by omega))
abbrev u0B (b:Nat) (a:Ad):a0C:=pts b (.cells #[ptr a.maps] 56 (0,0))
theorem k2N (W:World) (a:Ad) (s:St) (root:Int) (b0 b1:Nat) {C:Type} (r:Nat) (J Jx:C→a0C) (see:Nat×Int→C→Bool×C) (mu:C→Nat) (bd:Nat) (hmu: ∀x c,mu (see x c).2≤mu c+1) (hy:f2E r J Jx see mu bd) (c:C) (ys:List (Nat×Int)) (hv:lvs 2 0 root s=some ys) (hbd:mu c+ys.length≤bd):
 a0F prog 255 #[.func (.yield r) #[] #[],ptr b0,ptr b1] (RS W a s++ [u0B b0 a,f0L b1 root,J c]) (a0T (.tuple #[]) (RS W a s++ [u0B b0 a,f0L b1 root,JB J Jx (f0Y see ys c)])):=by
 refine ns ?_;refine en func255 ntmps255 fun R w0=> ?_;refine cg 4 (q1A W a s r J Jx see mu bd hmu hy 2 (by omega) root 0 c ys hv hbd (by omega)) ?_;refine go 1 ?_;refine d0W rfl rfl gSp
theorem p2I (a:Ad) (root:Int):a0F prog 205 #[ptr a.maps,.int .i64 root] [] (b0N (fun _:Nat×Nat=>True) (fun x=> .func (.func 255) #[] #[ptr x.1,ptr x.2]) (fun x=> [u0B x.1 a,f0L x.2 root])):=by
 refine en func205 ntmps205 fun R w0=> ?_;refine go 2 ?_;refine bx fun b2=> ?_;refine bx fun b3=> ?_;refine go 9 ?_;exact rE idh ((b2,b3):Nat×Nat) trivial
abbrev w0A (x:Nat×Int):List Value:= [.int .i64 x.1,.int .i64 x.2]
abbrev lvA (b6 b7 b9 from_ upto:Nat) (out:List (Nat×Int)) (v:Value):List a0C:= [pts b9 (.cells #[v] 241 (0,0)),b0H 244 2 v out.length (out.flatMap w0A),f0L b6 from_,f0L b7 upto]
abbrev lvJ (b6 b7 b9 from_ upto l:Nat) (rec:Loop) (x:Option Code) (out:List (Nat×Int)):a0C:=ex fun v:Value=>b0D (pts l (.loop (i0M rec x))::lvA b6 b7 b9 from_ upto out v)
theorem n1V {b6 b7 b9 from_ upto l:Nat} {rec:Loop} {x:Option Code} {out:List (Nat×Int)} {w:World} {M:List a0C} (v:Value) (h:Sat w (pts l (.loop (i0M rec x))::(lvA b6 b7 b9 from_ upto out v++M))):Sat w (lvJ b6 b7 b9 from_ upto l rec x out::M):=g0X.2 ⟨v,b0J.2 h⟩
theorem k2O (from_ upto:Nat) (x:Nat×Int) (c:List (Nat×Int)):(d0G from_ upto x c).2.length≤c.length+1:=by unfold d0G;split<;>(try split)<;>simp
theorem y1F (W:World) (a:Ad) (s:St) (root:Int) (from_ upto:Nat) (ys:List (Nat×Int)) (hv:lvs 2 0 root s=some ys) (hyl:ys.length≤512):a0F prog 168 #[ptr a.maps,.int .i64 root,.int .i64 from_,.int .i64 upto] (RS W a s)
 (b0N (fun _:Value=>True) id (fun v=>RS W a s++ [b0H 244 2 v (f0Y (d0G from_ upto) ys []).2.length ((f0Y (d0G from_ upto) ys []).2.flatMap w0A)])):=by
 refine y0X func168 rfl ntmps168 rfl (fun R w0=> ?_);simp only[j0Q,List.cons_append,List.nil_append];refine go 2 ?_;refine bx fun b6=> ?_;refine bx fun b7=> ?_;refine go 5 ?_;refine al fun b9=> ?_;refine go 4 ?_;refine b0V (fun w h=>e0W 244 2 w h) ?_;refine ce 3 (p2I a root) ?_;rintro⟨p0,p1⟩ _;refine ns ?_;refine go 3 ?_;refine h1M (X:=Bool×List (Nat×Int)) (ok:=fun p=>p=f0Y (d0G from_ upto) ys []) (v:=fun _=> .tuple #[]) (jump:=fun p=>if p.1 then none else some (.exit 0)) (N:=fun p=>RS W a s++ [u0B p0 a,f0L p1 root,ex fun v:Value=>b0D (lvA b6 b7 b9 from_ upto p.2 v)]) rfl Hb.o (show a0Z _ (RS W a s++([u0B p0 a,f0L p1 root]++lvA b6 b7 b9 from_ upto [] (.slice none 0 0))) _ from gSp) ?_ ?_ ?_
 ·intro l D fn tmps hsz hsl rec hrec;refine m1K (fun w F h=> ?_) (k2N W a s root p0 p1 l (lvJ b6 b7 b9 from_ upto l rec none) (lvJ b6 b7 b9 from_ upto l rec (some (.exit 0))) (d0G from_ upto) List.length 512 (k2O from_ upto) (fun x c hc=> ?_) [] ys hv (by simpa using hyl)) (fun e L hp=> ?_)
  ·simp only[List.cons_append,List.nil_append]at h ⊢;have h1:Sat w (b0D (pts l (.loop (i0M rec none))::lvA b6 b7 b9 from_ upto [] (.slice none 0 0))::(RS W a s++ [u0B p0 a,f0L p1 root,F])):=b0J.2 (by simp only[List.cons_append,List.nil_append];subst hrec;exact h.re gSp);have h2:Sat w (lvJ b6 b7 b9 from_ upto l rec none []::(RS W a s++ [u0B p0 a,f0L p1 root,F])):=g0X.2 ⟨_,h1⟩;simp only[List.cons_append,List.nil_append]at h2;exact h2.re gSp
  rotate_left
  ·obtain⟨rfl,rfl⟩:=hp;refine⟨_,⟨f0Y (d0G from_ upto) ys [],rfl,rfl,rfl⟩,fun w F h=> ?_⟩
   revert h
   generalize f0Y (d0G from_ upto) ys []=p;obtain⟨b,out⟩:=p;intro h;simp only[List.cons_append,List.nil_append]at h ⊢;cases b with
   |false=>
    rw[p2F rfl]at h;have h1:Sat w (lvJ b6 b7 b9 from_ upto l rec (some (.exit 0)) out::(RS W a s++ [u0B p0 a,f0L p1 root,F])):=by simp only[List.cons_append,List.nil_append];exact h.re gSp
    obtain⟨v,h2⟩:=g0X.1 h1;have h3:=b0J.1 h2;simp only[List.cons_append,List.nil_append]at h3;have h4:Sat w (b0D (lvA b6 b7 b9 from_ upto out v)::(pts l (.loop (i0M rec (some (.exit 0))))::(RS W a s++ [u0B p0 a,f0L p1 root,F]))):=b0J.2 (by simp only[List.cons_append,List.nil_append];exact h3.re gSp);have h5:Sat w ((ex fun v=>b0D (lvA b6 b7 b9 from_ upto out v))::(pts l (.loop (i0M rec (some (.exit 0))))::(RS W a s++ [u0B p0 a,f0L p1 root,F]))):=g0X.2 ⟨v,h4⟩;simp only[List.cons_append,List.nil_append]at h5;exact h5.re gSp
   |true=>
    rw[p2E rfl]at h;have h1:Sat w (lvJ b6 b7 b9 from_ upto l rec none out::(RS W a s++ [u0B p0 a,f0L p1 root,F])):=by simp only[List.cons_append,List.nil_append];exact h.re gSp
    obtain⟨v,h2⟩:=g0X.1 h1;have h3:=b0J.1 h2;simp only[List.cons_append,List.nil_append]at h3;have h4:Sat w (b0D (lvA b6 b7 b9 from_ upto out v)::(pts l (.loop (i0M rec none))::(RS W a s++ [u0B p0 a,f0L p1 root,F]))):=b0J.2 (by simp only[List.cons_append,List.nil_append];exact h3.re gSp);have h5:Sat w ((ex fun v=>b0D (lvA b6 b7 b9 from_ upto out v))::(pts l (.loop (i0M rec none))::(RS W a s++ [u0B p0 a,f0L p1 root,F]))):=g0X.2 ⟨v,h4⟩;simp only[List.cons_append,List.nil_append]at h5;exact h5.re gSp
  refine h1N fun v=> ?_;subst hrec;refine y0W rfl hsz hsl rfl (fun R2 w2=> ?_);refine ns ?_;skip;refine o0M (by repeat (first|exact o0O|exact u0O|apply q0C|apply o0N)) rfl ?_;refine al fun b10=> ?_;refine(a0M Sz.o rfl rfl (by first|rfl|simp) (by simp[Value.oneCell']) (by simp[Value.cells]) (by simp[i0X,Value.cells]<;>rfl) ?_);refine go 1 ?_;refine h1L rfl gFd ?_;refine h1K ?_;refine r1H ?_;refine r1H ?_;refine o0M (by repeat (first|exact o0O|exact u0O|apply q0C|apply o0N)) rfl ?_;refine go 5 ?_;refine m1I idh ?_;refine q2F rfl (fun hb18=> ?_) (fun hb18=> ?_)
  ·have hge:upto≤x.1:=by have h:=hb18;simp only[decide_eq_true_eq]at h;omega
   have hs:d0G from_ upto x c=(false,c):=by unfold d0G;rw[if_pos hge]
   rw[hs];refine r2F ?_;repeat (first|with_reducible refine l0S ?_|with_reducible refine q0D ?_|with_reducible refine n0I rfl ?_)
   refine b2V gFd (fun w h=>⟨_,⟨rfl,rfl⟩,n1V (M:= [R2]) v ?_⟩) rfl;simp only[List.cons_append,List.nil_append]at h ⊢;exact h.sub gSp
  ·have hge: ¬upto≤x.1:=by have h:=hb18;simp only[decide_eq_false_iff_not]at h;omega
   refine y1V ?_;refine m1I idh ?_;refine r1H ?_;refine o0M (by repeat (first|exact o0O|exact u0O|apply q0C|apply o0N)) rfl ?_;refine go 5 ?_;refine m1I idh ?_;refine q2F rfl (fun hb22=> ?_) (fun hb22=> ?_)
   ·have hs:d0G from_ upto x c=(true,c++ [x]):=by unfold d0G;rw[if_neg hge,if_pos (by have h:=hb22;simp only[decide_eq_true_eq]at h;omega)]
    rw[hs];refine o0M (by repeat (first|exact o0O|exact u0O|apply q0C|apply o0N)) rfl ?_;refine go 2 ?_;refine bl fun b25=> ?_;refine(c0Z Tsl.o Ttb.o Zr.o rfl rfl rfl gFd (e0Z Tsl.o (by simp;rfl) (by simp) (by simp[Value.oneCell'])) (by simp only[maxLen];omega) (by omega) (fun v26 hv26=> ?_));refine go 2 ?_;rw[show c.flatMap w0A++ [Value.int .i64 x.1,Value.int .i64 x.2]=(c++ [x]).flatMap w0A by simp,show c.length+1=(c++ [x]).length by simp];repeat (first|with_reducible refine l0S ?_|with_reducible refine q0D ?_|with_reducible refine n0I rfl ?_)
    refine y0D gFd (fun w h=>⟨_,⟨rfl,rfl⟩,n1V (M:= [R2]) v26 ?_⟩) rfl;simp only[List.cons_append,List.nil_append]at h ⊢;exact h.sub gSp
   ·have hs:d0G from_ upto x c=(true,c):=by unfold d0G;rw[if_neg hge,if_neg (by have h:=hb22;simp only[decide_eq_false_iff_not]at h;omega)]
    rw[hs];refine y1V ?_;repeat (first|with_reducible refine l0S ?_|with_reducible refine q0D ?_|with_reducible refine n0I rfl ?_)
    refine y0D gFd (fun w h=>⟨_,⟨rfl,rfl⟩,n1V (M:= [R2]) v ?_⟩) rfl;simp only[List.cons_append,List.nil_append]at h ⊢;exact h.sub gSp
 ·intro D x hx hj;subst hx;refine go 2 ?_;refine ns ?_;refine u0N (show Fnd _ (ex fun v:Value=>b0D (lvA b6 b7 b9 from_ upto (f0Y (d0G from_ upto) ys []).2 v)) _ from gFd) fun v=> ?_;refine ns ?_;refine go 5 ?_;exact f1E idh rfl gSp ⟨v,trivial,rfl,rfl⟩
 ·intro D x k hx hj;subst hx;obtain rfl:k= .exit 0:=by split at hj<;>simp_all
  refine go 3 ?_;refine ns ?_;refine u0N (show Fnd _ (ex fun v:Value=>b0D (lvA b6 b7 b9 from_ upto (f0Y (d0G from_ upto) ys []).2 v)) _ from gFd) fun v=> ?_;refine ns ?_;refine go 5 ?_;exact f1E idh rfl gSp ⟨v,trivial,rfl,rfl⟩
section
theorem w2R (b:Nat):a0F prog 91 #[.map (some b)] [] (b0N (fun _:Nat=>True) (fun x=> .func (.func 136) #[] #[ptr x]) (fun x=> [pts x (.cells #[.map (some b)] 57 (0,0))])):=by
 refine en func91 ntmps91 fun R w0=> ?_;refine go 2 ?_;refine bx fun b1=> ?_;refine go 9 ?_;exact rE idh b1 trivial
abbrev ksA (b2:Nat) (acc:List Int) (v:Value):List a0C:= [pts b2 (.cells #[v] 159 (0,0)),b0H 47 1 v acc.length (us acc)]
abbrev ksJ (b2 l:Nat) (rec:Loop) (acc:List Int):a0C:=ex fun v:Value=>b0D (pts l (.loop (i0M rec none))::ksA b2 acc v)
theorem b2C {b2 l:Nat} {rec:Loop} {acc:List Int} {w:World} {M:List a0C} (v:Value) (h:Sat w (pts l (.loop (i0M rec none))::(ksA b2 acc v++M))):Sat w (ksJ b2 l rec acc::M):=g0X.2 ⟨v,b0J.2 h⟩
section
variable {ν:Type} {ev:ν→Value}
theorem y1G (b b1:Nat) (m:List (Int×ν)) (hm:m.length≤1000):a0F prog 178 #[.slice none 0 0,.func (.func 136) #[] #[ptr b1]] [pts b1 (.cells #[.map (some b)] 57 (0,0)),b0L b e0H ev m]
 (b0N (fun x:Value×List Int=>x.2.Perm (m.map (·.1))) (fun x=>x.1) (fun x=> [b0H 47 1 x.1 x.2.length (us x.2),b0L b e0H ev m])):=by
 refine y0X func178 rfl ntmps178 rfl (fun R w0=> ?_);simp only[j0Q,List.cons_append,List.nil_append];refine go 1 ?_;refine b0V (fun w h=>e0W 47 1 w h) ?_;refine go 1 ?_;refine bx fun b2=> ?_;refine go 10 ?_;refine h1M (X:=List Int) (ok:=fun acc=>acc.Perm (m.map (·.1))) (v:=fun _=> .tuple #[]) (jump:=fun _=>none) (N:=fun acc=> [b0L b e0H ev m,ex fun v:Value=>b0D (ksA b2 acc v)]) rfl Hb.o (show a0Z _ ([pts b1 (.cells #[.map (some b)] 57 (0,0)),b0L b e0H ev m]++ksA b2 [] (.slice none 0 0)) _ from gSp) ?_ ?_ ?_
 ·intro l D fn tmps hsz hsl rec hrec;refine m1K (fun w F h=> ?_) (u2G (ev:=ev) l b1 b m (ksJ b2 l rec) (fun acc k hk=> ?_)) (fun e L hp=> ?_)
  ·simp only[List.cons_append,List.nil_append]at h ⊢;have h1:Sat w (pts l (.loop (i0M rec none))::(ksA b2 [] (.slice none 0 0)++ [pts b1 (.cells #[.map (some b)] 57 (0,0)),b0L b e0H ev m,F])):=by
    simp only[List.cons_append,List.nil_append,i0M,Option.isNone_none,if_true];rw[show({rec with state:= .ready,pending:=none} :Loop)=rec by rw[hrec]];exact h.re gSp
   exact b2C _ h1
  rotate_left
  ·obtain⟨acc,hacc,rfl,rfl⟩:=hp;refine⟨_,⟨acc,hacc,rfl,rfl⟩,fun w F h=> ?_⟩;simp only[List.cons_append,List.nil_append]at h ⊢;obtain⟨v,h2⟩:=g0X.1 h;have h3:=b0J.1 h2;simp only[List.cons_append,List.nil_append]at h3;have h4:Sat w (b0D (ksA b2 acc v)::(pts l (.loop (i0M rec none)):: [b0L b e0H ev m,F])):=b0J.2 (by simp only[List.cons_append,List.nil_append];exact h3.re gSp);have h5:Sat w ((ex fun v=>b0D (ksA b2 acc v))::(pts l (.loop (i0M rec none)):: [b0L b e0H ev m,F])):=g0X.2 ⟨v,h4⟩;exact h5.re gSp
  obtain⟨rst,hrst⟩:=hk;have hal:acc.length+1≤1000:=by have:=hrst.length_eq;simp at this;omega
  refine h1N fun v=> ?_;subst hrec;refine y0W rfl hsz hsl rfl (fun R2 w2=> ?_);refine ns ?_;skip;refine o0M (by repeat (first|exact o0O|exact u0O|apply q0C|apply o0N)) rfl ?_;refine go 2 ?_;refine h1L rfl gFd ?_;refine h1K ?_;refine o0M (by repeat (first|exact o0O|exact u0O|apply q0C|apply o0N)) rfl ?_;refine go 2 ?_;refine bl fun b10=> ?_;refine(c0Z Tsl.o Ttb.o Zr.o rfl rfl rfl gFd (e0Z Tsl.o (by simp;rfl) (by simp) (by simp[Value.oneCell'])) (by simp only[maxLen];omega) (by omega) (fun v11 hv11=> ?_));refine go 2 ?_;repeat (first|with_reducible refine l0S ?_|with_reducible refine q0D ?_|with_reducible refine n0I rfl ?_)
  refine y0D gFd (fun w h=>⟨_,⟨rfl,rfl⟩,b2C (M:= [R2]) v11 ?_⟩) rfl;simp only[List.cons_append,List.nil_append]at h ⊢;rw[show b0H 47 1 v11 (acc++ [k]).length (us (acc++ [k]))=b0H 47 1 v11 (acc.length+1) (us acc++ [u4 k]) by rw[List.length_append,us,List.map_append];rfl];exact h.sub gSp
 ·intro D x hx hj;skip;refine go 2 ?_;refine ns ?_;refine u0N (show Fnd _ (ex fun v:Value=>b0D (ksA b2 x v)) _ from gFd) fun v=> ?_;refine ns ?_;refine go 5 ?_;exact f1E idh rfl gSp ⟨(v,x),hx,rfl,rfl⟩
 ·intro D x k hx hj;cases hj
end
end
section
abbrev i8 (n:Int):Value:= .int .i64 n
abbrev j0P (xs:List Int):List Value:=xs.map i8
section
variable {ν:Type} {ev:ν→Value}
theorem u2O (l b1 b:Nat) (m:List (Int×ν)) (J:List Int→a0C) (hy: ∀acc k,(∃rest,(m.map (·.1)).Perm (acc++k::rest))→a1O prog l #[i8 k] [J acc] (fun e L'=>e= .returned (.bool true)∧L'= [J (acc++ [k])])):
 a0F prog 157 #[.func (.yield l) #[] #[],ptr b1] [J [],pts b1 (.cells #[.map (some b)] 89 (0,0)),b0L b a0J ev m]
  (b0N (fun acc:List Int=>acc.Perm (m.map (·.1))) (fun _=> .tuple #[]) (fun acc=> [J acc,b0L b a0J ev m])):=by
 refine en func157 ntmps157 fun R w0=> ?_;refine go 3 ?_;refine t1C (ek:=a0J) (ev:=ev) (m:=m) d0I.o rfl gFd (fun r=> ?_);refine go 3 ?_;refine a0V (X:= {y:List Int×List (Int×ν)×Option (Int×ν) // (m.map (·.1)).Perm (y.1++y.2.1.map (·.1))}) (fun y=> [(0,.func (.yield l) #[] #[]),(5,ptr r)]) (fun y=> [J y.1.1,t0B r b a0J ev m y.1.2.1 y.1.2.2,R]) (fun y=>y.1.2.1.length) ⟨([],m,none),List.Perm.refl _⟩ gSu gSp ?_;rintro⟨⟨acc,todo,cur⟩,hp⟩ m0 hm0
 try simp only at hm0
 try dsimp only
 dsimp only at hp;refine go 2 ?_;refine z1V (ek:=a0J) (ev:=ev) rfl gFd (fun z todo' hz hn=> ?_);refine a0D (q2K rfl) ?_;refine go 3 ?_;refine a0P rfl (fun hb7=> ?_) (fun hb7=> ?_)
 ·obtain⟨k,rfl⟩:=Option.isSome_iff_exists.1 hb7;have hlen:todo.length=todo'.length+1:=by have:=hz.length_eq;simpa using this
  have hp2:(m.map (·.1)).Perm (acc++k.1::todo'.map (·.1)):=hp.trans (List.Perm.append_left _ (by simpa using hz.map (·.1)));refine go 5 ?_;refine a0D (z1W (ek:=a0J) (ev:=ev) rfl gFd) ?_;refine go 5 ?_;refine a1P ?_;refine t0N (d0V rfl) ?_;refine t0N (d0V rfl) ?_;refine h1J rfl rfl (hy acc k.1 ⟨_,hp2⟩) gSp ?_;refine ns ?_;refine t0N (a1H rfl) ?_;refine r1G ?_;refine go 3 ?_;exact rd idh (⟨(acc++ [k.1],todo',some k),by(show(m.map (·.1)).Perm (acc++ [k.1]++todo'.map (·.1)));rw[List.append_assoc];exact hp2⟩)
 ·refine go 1 ?_;have hz0:z=none:=by cases z with|none=>rfl|some _=>cases hb7
  have ht:=hn hz0;subst ht;have hp3:acc.Perm (m.map (·.1)):=(by simpa using hp:(m.map (·.1)).Perm acc).symm;refine b0G (fun w h=>t1B ((show Fnd _ (t0B r b a0J ev m todo' z) _ from gFd).sat h)) ?_;exact fE acc hp3
end
theorem w2S (b:Nat):a0F prog 112 #[.map (some b)] [] (b0N (fun _:Nat=>True) (fun x=> .func (.func 157) #[] #[ptr x]) (fun x=> [pts x (.cells #[.map (some b)] 89 (0,0))])):=by
 refine en func112 ntmps112 fun R w0=> ?_;refine go 2 ?_;refine bx fun b1=> ?_;refine go 9 ?_;exact rE idh b1 trivial
abbrev isA (b2:Nat) (acc:List Int) (v:Value):List a0C:= [pts b2 (.cells #[v] 90 (0,0)),b0H 3 1 v acc.length (j0P acc)]
abbrev isJ (b2 l:Nat) (rec:Loop) (acc:List Int):a0C:=ex fun v:Value=>b0D (pts l (.loop (i0M rec none))::isA b2 acc v)
theorem b2D {b2 l:Nat} {rec:Loop} {acc:List Int} {w:World} {M:List a0C} (v:Value) (h:Sat w (pts l (.loop (i0M rec none))::(isA b2 acc v++M))):Sat w (isJ b2 l rec acc::M):=g0X.2 ⟨v,b0J.2 h⟩
section
variable {ν:Type} {ev:ν→Value}
theorem y1H (b b1:Nat) (m:List (Int×ν)) (hm:m.length≤100000):a0F prog 190 #[.slice none 0 0,.func (.func 157) #[] #[ptr b1]] [pts b1 (.cells #[.map (some b)] 89 (0,0)),b0L b a0J ev m]
 (b0N (fun x:Value×List Int=>x.2.Perm (m.map (·.1))) (fun x=>x.1) (fun x=> [b0H 3 1 x.1 x.2.length (j0P x.2),b0L b a0J ev m])):=by
 refine y0X func190 rfl ntmps190 rfl (fun R w0=> ?_);simp only[j0Q,List.cons_append,List.nil_append];refine go 1 ?_;refine b0V (fun w h=>e0W 3 1 w h) ?_;refine go 1 ?_;refine bx fun b2=> ?_;refine go 10 ?_;refine h1M (X:=List Int) (ok:=fun acc=>acc.Perm (m.map (·.1))) (v:=fun _=> .tuple #[]) (jump:=fun _=>none) (N:=fun acc=> [b0L b a0J ev m,ex fun v:Value=>b0D (isA b2 acc v)]) rfl Hb.o (show a0Z _ ([pts b1 (.cells #[.map (some b)] 89 (0,0)),b0L b a0J ev m]++isA b2 [] (.slice none 0 0)) _ from gSp) ?_ ?_ ?_
 ·intro l D fn tmps hsz hsl rec hrec;refine m1K (fun w F h=> ?_) (u2O (ev:=ev) l b1 b m (isJ b2 l rec) (fun acc k hk=> ?_)) (fun e L hp=> ?_)
  ·simp only[List.cons_append,List.nil_append]at h ⊢;have h1:Sat w (pts l (.loop (i0M rec none))::(isA b2 [] (.slice none 0 0)++ [pts b1 (.cells #[.map (some b)] 89 (0,0)),b0L b a0J ev m,F])):=by
    simp only[List.cons_append,List.nil_append,i0M,Option.isNone_none,if_true];rw[show({rec with state:= .ready,pending:=none} :Loop)=rec by rw[hrec]];exact h.re gSp
   exact b2D _ h1
  rotate_left
  ·obtain⟨acc,hacc,rfl,rfl⟩:=hp;refine⟨_,⟨acc,hacc,rfl,rfl⟩,fun w F h=> ?_⟩;simp only[List.cons_append,List.nil_append]at h ⊢;obtain⟨v,h2⟩:=g0X.1 h;have h3:=b0J.1 h2;simp only[List.cons_append,List.nil_append]at h3;have h4:Sat w (b0D (isA b2 acc v)::(pts l (.loop (i0M rec none)):: [b0L b a0J ev m,F])):=b0J.2 (by simp only[List.cons_append,List.nil_append];exact h3.re gSp);have h5:Sat w ((ex fun v=>b0D (isA b2 acc v))::(pts l (.loop (i0M rec none)):: [b0L b a0J ev m,F])):=g0X.2 ⟨v,h4⟩;exact h5.re gSp
  obtain⟨rst,hrst⟩:=hk;have hal:acc.length+1≤100000:=by have:=hrst.length_eq;simp at this;omega
  refine h1N fun v=> ?_;subst hrec;refine y0W rfl hsz hsl rfl (fun R2 w2=> ?_);refine ns ?_;skip;refine o0M (by repeat (first|exact o0O|exact u0O|apply q0C|apply o0N)) rfl ?_;refine go 2 ?_;refine h1L rfl gFd ?_;refine h1K ?_;refine o0M (by repeat (first|exact o0O|exact u0O|apply q0C|apply o0N)) rfl ?_;refine go 2 ?_;refine bl fun b10=> ?_;refine(c0Z Tsl.o Ttb.o Zr.o rfl rfl rfl gFd (e0Z Tsl.o (by simp;rfl) (by simp) (by simp[Value.oneCell'])) (by simp only[maxLen];omega) (by omega) (fun v11 hv11=> ?_));refine go 2 ?_;repeat (first|with_reducible refine l0S ?_|with_reducible refine q0D ?_|with_reducible refine n0I rfl ?_)
  refine y0D gFd (fun w h=>⟨_,⟨rfl,rfl⟩,b2D (M:= [R2]) v11 ?_⟩) rfl;simp only[List.cons_append,List.nil_append]at h ⊢;rw[show b0H 3 1 v11 (acc++ [k]).length (j0P (acc++ [k]))=b0H 3 1 v11 (acc.length+1) (j0P acc++ [i8 k]) by rw[List.length_append,j0P,List.map_append];rfl];exact h.sub gSp
 ·intro D x hx hj;skip;refine go 2 ?_;refine ns ?_;refine u0N (show Fnd _ (ex fun v:Value=>b0D (isA b2 x v)) _ from gFd) fun v=> ?_;refine ns ?_;refine go 5 ?_;exact f1E idh rfl gSp ⟨(v,x),hx,rfl,rfl⟩
 ·intro D x k hx hj;cases hj
end
end
section
theorem k2P:a0F prog 210 #[.slice none 0 0,.int .i64 0,.int .i64 0] [] (a0T (.tuple #[]) []):=by
 refine en func210 ntmps210 fun R w0=> ?_;refine go 8 ?_;refine a0V (X:=Unit) (fun y=> [(0,.slice none 0 0),(1,.int .i64 0),(2,.int .i64 0),(6,.int .i64 1)]) (fun y=> [R]) (fun y=>0) () gSu gSp ?_;rintro⟨⟩ m0 hm0
 try simp only at hm0
 try dsimp only
 skip;refine go 10 ?_;refine d0W rfl rfl gSp
theorem w2T:a0F prog 179 #[.slice none 0 0,.int .i64 0,.int .i64 0,.int .i64 0] [] (a0T (.tuple #[]) []):=by
 refine en func179 ntmps179 fun R w0=> ?_;refine go 11 ?_;refine a0V (X:=Unit) (fun y=> [(0,.slice none 0 0),(1,.int .i64 0),(2,.int .i64 0),(3,.int .i64 0),(8,.bool true),(9,.bool true)]) (fun y=> [R]) (fun y=>0) () gSu gSp ?_;rintro⟨⟩ m0 hm0
 try simp only at hm0
 try dsimp only
 skip;refine cg 22 (k2P) ?_;refine go 2 ?_;exact rG
theorem w2U (v:Value) (xs:List Int) (hn:xs.length≤16) (hnd:xs.Nodup):a0F prog 135 #[v] [b0H 47 1 v xs.length (us xs)]
 (b0N (fun ys:List Int=>ys.Perm xs∧ys.Pairwise (· < ·)) (fun _=> .tuple #[]) (fun ys=> [b0H 47 1 v xs.length (us ys)])):=by
 by_cases h0:xs.length=0
 ·obtain rfl:xs= []:=List.length_eq_zero_iff.1 h0;refine en func135 ntmps135 fun R w0=> ?_;refine x1C (e:=47) gFd (fun hv _=> ?_) (fun g cap hv hcap=> ?_)
  ·subst hv;refine cg 12 (q1T 0 (by omega)) ?_;refine cg 0 (w2T) ?_;refine go 1 ?_;exact fE [] ⟨List.Perm.refl _,List.Pairwise.nil⟩
  ·subst hv;refine cg 12 (q1T 0 (by omega)) ?_;refine ce 0 (q2N g 0 cap (by omega) 1 0 0 0 [] rfl (by omega) (by omega) (by omega) (by omega) (by omega) hnd (by omega)) ?_;rintro ys ⟨h1,h2⟩;refine ns ?_;refine go 1 ?_;exact fE ys ⟨h1.perm,by rw[h1.perm.eq_nil];exact List.Pairwise.nil⟩
 ·obtain⟨n,hn2⟩: ∃n,n=xs.length:=⟨_,rfl⟩;rw[←hn2]at hn h0 ⊢;have hb:=n1R hn;have hb12:n≤q0P n+12:=by rcases le16 hn with rfl|rfl|rfl|rfl|rfl|rfl|rfl|rfl|rfl|rfl|rfl|rfl|rfl|rfl|rfl|rfl|rfl<;>decide
  refine en func135 ntmps135 fun R w0=> ?_;refine i0Y (e:=47) gFd (by omega) fun g cap hv hcap=> ?_;subst hv;refine go 12 ?_;rw[show IntKind.u64.wrap (n:Int)=(n:Int)from e0L .u64 _ (by omega) (by show(n:Int)<9223372036854775808;omega)];refine cg 0 (q1T n hn) ?_;refine ce 0 (q2N g n cap hn (n+1) 0 n (q0P n) xs hn2.symm (by omega) (by omega) (by omega) (by omega) (by omega) hnd (fun i h=>absurd h (by omega))) ?_;rintro ys ⟨h1,h2⟩;refine ns ?_;refine go 1 ?_;exact fE ys ⟨h1.perm,Srt.list (by rw[h1.len,←hn2];exact h2)⟩
section
variable {ν:Type} {ev:ν→Value}
theorem k2Q (b b1:Nat) (m:List (Int×ν)) (hm:m.length≤1000):a0F prog 134 #[.func (.func 136) #[] #[ptr b1]] [pts b1 (.cells #[.map (some b)] 57 (0,0)),b0L b e0H ev m]
 (b0N (fun x:Value×List Int=>x.2.Perm (m.map (·.1))) (fun x=>x.1) (fun x=> [b0H 47 1 x.1 x.2.length (us x.2),b0L b e0H ev m])):=by
 refine en func134 ntmps134 fun R w0=> ?_;refine ce 8 (y1G b b1 m hm) ?_;rintro x hx;refine ns ?_;refine go 3 ?_;exact rE idh x hx
theorem p2J (b b1:Nat) (m:List (Int×ν)) (hm:m.length≤16) (hk:mok m):a0F prog 90 #[.func (.func 136) #[] #[ptr b1]] [pts b1 (.cells #[.map (some b)] 57 (0,0)),b0L b e0H ev m]
 (b0N (fun x:Value×List Int=>x.2.Perm (m.map (·.1))∧x.2.Pairwise (· < ·)) (fun x=>x.1) (fun x=> [b0H 47 1 x.1 x.2.length (us x.2),b0L b e0H ev m])):=by
 refine en func90 ntmps90 fun R w0=> ?_;refine ce 8 (k2Q b b1 m (by omega)) ?_;rintro⟨v,xs⟩ hx;refine ns ?_;dsimp only at hx ⊢;have hl:xs.length≤16:=by have:=hx.length_eq;rw[List.length_map]at this;omega
 refine ce 6 (w2U v xs hl (hx.nodup_iff.2 hk)) ?_;rintro ys ⟨h1,h2⟩;refine ns ?_;refine go 7 ?_;rw[show xs.length=ys.length from h1.length_eq.symm];refine go 1 ?_;exact rE idh (v,ys) ⟨h1.trans hx,h2⟩
theorem k2R (b b1:Nat) (m:List (Int×ν)) (hm:m.length≤100000):a0F prog 155 #[.func (.func 157) #[] #[ptr b1]] [pts b1 (.cells #[.map (some b)] 89 (0,0)),b0L b a0J ev m]
 (b0N (fun x:Value×List Int=>x.2.Perm (m.map (·.1))) (fun x=>x.1) (fun x=> [b0H 3 1 x.1 x.2.length (j0P x.2),b0L b a0J ev m])):=by
 refine en func155 ntmps155 fun R w0=> ?_;refine ce 8 (y1H b b1 m hm) ?_;rintro x hx;refine ns ?_;refine go 3 ?_;exact rE idh x hx
theorem p2K (b b1:Nat) (m:List (Int×ν)) (hm:m.length≤100000):a0F prog 111 #[.func (.func 157) #[] #[ptr b1]] [pts b1 (.cells #[.map (some b)] 89 (0,0)),b0L b a0J ev m]
 (b0N (fun x:Value×List Int=>x.2.length=m.length) (fun x=>x.1) (fun x=> [b0H 3 1 x.1 x.2.length (j0P x.2),b0L b a0J ev m])):=by
 refine en func111 ntmps111 fun R w0=> ?_;refine ce 8 (k2R b b1 m (by omega)) ?_;rintro⟨v,xs⟩ hx;refine ns ?_;dsimp only at hx ⊢;have hl:xs.length=m.length:=by have:=hx.length_eq;rw[List.length_map]at this;exact this
 refine ce 6 (h2V (e:=3) Tryz.slices_Sort_int Tryz.slices_Sort_int_none v xs (by omega)) ?_;rintro ys h1;refine ns ?_;refine go 7 ?_;rw[show xs.length=ys.length from h1.symm];refine go 1 ?_;exact rE idh (v,ys) (h1.trans hl)
end
end
abbrev q2Q (s:St) (k:Int):Ent:=(a0E k s.vols).getD h0T
abbrev c1I (s:St) (k:Int):List Value:=h0L (q2Q s k)
theorem v1P (a:Ad) (s:St) (hm:s.vols.length≤16) (hk:mok s.vols):a0F prog 37 #[ptr a.core] [HL a s]
 (b0N (fun x:Value×List Int=>x.2.Perm (s.vols.map (·.1))∧x.2.Pairwise (· < ·)) (fun x=>x.1) (fun x=> [b0H 50 6 x.1 x.2.length (x.2.flatMap (c1I s)),HL a s])):=by
 refine en func37 ntmps37 fun R w0=> ?_;refine e0J gFd fun by_ gv gc o hg hok=> ?_;simp only[d0M,o0J,List.cons_append,List.nil_append];refine ce 17 (w2R a.vols) ?_;rintro b0 _;refine ns ?_;refine ce 0 (p2J a.vols b0 s.vols hm hk) ?_;rintro⟨v,xs⟩ ⟨h1,h2⟩;refine ns ?_;dsimp only at h1 h2 ⊢;refine a0D (h0Y (e:=47) Tsl.o rfl gFd) ?_;refine go 4 ?_;refine b0V (d0A hg hok gSp) ?_;refine b0V (fun w h=>e0W 50 6 w h) ?_;have hxl:xs.length≤16:=by have:=h1.length_eq;rw[List.length_map]at this;omega
 refine o0L (e:=47) gFd fun p cap hv hcap _=> ?_;subst hv;refine a0V (X:= {y:Nat×Value // y.1≤xs.length}) (fun y=> [(0,ptr a.core),(3,y.1.2),(11,.slice p xs.length cap),(12,.int .i64 xs.length),(13,.int .i64 y.1.1)]) (fun y=> [b0H 50 6 y.1.2 y.1.1 ((xs.take y.1.1).flatMap (c1I s)),b0H 47 1 (.slice p xs.length cap) xs.length (us xs),HL a s,R]) (fun y=>xs.length-y.1.1) ⟨(0,.slice none 0 0),Nat.zero_le _⟩ gSu gSp ?_;rintro⟨⟨i,u⟩,hi⟩ m0 hm0
 try simp only at hm0
 try dsimp only
 simp only at hi;refine go 6 ?_;refine a0P rfl (fun hb14=> ?_) (fun hb14=> ?_)
 ·have hil:i<xs.length:=by have:=of_decide_eq_true hb14;omega
  refine i0Y (e:=47) gFd (by omega) fun g cap' hv2 hcap2=> ?_;cases hv2
  obtain⟨x,hx⟩: ∃x,x=(a0E xs[i] s.vols).getD h0T:=⟨_,rfl⟩;refine go 7 ?_;refine a0D (a0U Sc.o rfl gFd (j0I u4 xs i _ hil (by omega))) ?_;refine go 3 ?_;refine e0J gFd fun by_ gv gc o hg hok=> ?_;simp only[d0M,o0J,List.cons_append,List.nil_append];refine go 7 ?_;refine a0D (f0P (ek:=e0H) (ev:=d0Z) (k:=xs[i]) d0I.o b1P (tt fun _=>trivial) trivial Zr.o rfl rfl gFd d1V) ?_;rw[←hx];simp only[d0Z,h0L];refine bl fun b24=> ?_;refine(c0Z Tsl.o Ttb.o Zr.o rfl rfl rfl gFd (e0Z Tsl.o (by simp;rfl) (by simp) (by simp[Value.oneCell'])) (by simp only[maxLen];omega) (by omega) (fun v25 hv25=> ?_));refine go 2 ?_;rw[show(xs.take i).flatMap (c1I s)++ [Value.int .u32 x.id,.int .u32 x.parent,.bool x.only,.int .i64 x.size,.int .i64 x.root,.int .u32 x.born]=(xs.take (i+1)).flatMap (c1I s) by rw[List.take_succ,List.getElem?_eq_getElem hil,List.flatMap_append,hx];simp[c1I,q2Q,h0L]];refine go 1 ?_;refine b0V (d0A hg hok gSp) ?_;refine go 4 ?_;exact rd idh (⟨(i+1,v25),hil⟩)
 ·obtain rfl:i=xs.length:=by have:=of_decide_eq_false hb14;omega
  rw[List.take_length];refine go 8 ?_;exact rE idh (u,xs) ⟨h1,h2⟩
end Go.Proofs.Q

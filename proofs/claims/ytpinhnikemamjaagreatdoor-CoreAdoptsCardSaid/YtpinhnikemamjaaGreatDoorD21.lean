/- Part of the proof; no statement of its own. -/
import Derived.Test.YtpinhnikemamjaaGreatDoorD19
import Derived.Test.YtpinhnikemamjaaGreatDoorD20
import Derived.Test.YtpinhnikemamjaaGreatDoorD05
import Derived.Test.YtpinhnikemamjaaGreatDoorD08
import Derived.Test.YtpinhnikemamjaaGreatDoorD06
set_option linter.all false
set_option maxRecDepth 4000
set_option maxHeartbeats 4000000
attribute [local irreducible] Go.Sl.a0P Go.Sl.OW Go.Sl.CW Go.Sl.OS Go.Sl.OM Go.Sl.OMf Go.Sl.KM
namespace Go.Proofs.Q
open Go.Sl Go.Sb Tryz
section
attribute [local semireducible] Sl.a0P Sl.OW Sl.CW Sl.OS Sl.OM Sl.OMf Sl.KM
abbrev fT:TypeId:=199
def t0U (x:B×B):List Value:= [.string (bs x.1),.string (bs x.2)]
def l0N (d:Dk):Prop:=(∀x∈d.l,x.1.length=64∧x.2.length=64)∧d.l.length≤4096∧d.left<4611686018427387904
abbrev dkC (a:Ad) (d:Dk):a0E:=pts a.disk (.cells #[a.vd,.bool d.armed,.int .i64 d.left,.bool d.dead] 173 (0,0))
abbrev dkR (a:Ad) (d:Dk):a0E:=b0I 175 2 a.vd d.l.length (d.l.flatMap t0U)
abbrev stC (a:Ad) (bits:Nat):a0E:=pts a.st (.cells #[ptr a.heap,.int .i64 bits,.map (some a.ix)] 210 (0,0))
abbrev mpC (a:Ad):a0E:=pts a.maps (.cells #[ptr a.heap,ptr a.st] 194 (0,0))
abbrev HX:=Nat×Value×List (Nat×Obj)×Own
def hlV (a:Ad) (s:St) (x:HX):List a0E:=e0K a x.1 x.2.2.2 s.log s.depth::m0X (n0E x.2.1 s.gone x.2.2.1∧o0M s)::TT a x.1 x.2.1 x.2.2.1 s
def HL (a:Ad) (s:St):a0E:=ex fun x:HX=>b0E (hlV a s x)
abbrev RS (W:World) (a:Ad) (s:St):List a0E:= [whole W,dkC a s.d,dkR a s.d,m0X (l0N s.d),stC a s.bits,mpC a,HL a s]
def gd {S α:Type} :Out α×S→Out Int×S
 | (.ok _,s)=>(.ok 0,s)
 | (.err e,s)=>(.ok e,s)
 | (.big,s)=>(.big,s)
section
variable {c:Cx} {Q:Exit→Act→World→Prop} {env:List (Nat×Value)} {L M:List a0E} {y:Code} {a:Ad} {s:St}
theorem e0C (hL:Fnd L (HL a s) M) (h: ∀by_ gv gc o,n0E gv s.gone gc→o0M s→CW c y Q env (e0K a by_ o s.log s.depth::(TT a by_ gv gc s++M))):CW c y Q env L:=by
 refine v0M hL fun x=> ?_;obtain⟨by_,gv,gc,o⟩:=x;simp only[hlV,List.cons_append];refine n0N (Fnd.there Fnd.here) fun b=> ?_;refine b0U (L':=e0K a by_ o s.log s.depth::(TT a by_ gv gc s++M)) (fun w d=> ?_) (h by_ gv gc o b.1 b.2);exact(u0D.1 (d.perm (List.Perm.swap _ _ _))).2
theorem c0W {by_:Nat} {gv:Value} {gc:List (Nat×Obj)} {o:Own} (d:n0E gv s.gone gc) (b:o0M s) (hL:b0A L (e0K a by_ o s.log s.depth::TT a by_ gv gc s) M) (w:World) (h:Sat w L):Sat w (HL a s::M):=by
 refine g0K.2 ⟨(by_,gv,gc,o),b0M.2 ?_⟩;have c:=n0V (p:=n0E gv s.gone gc∧o0M s) ⟨d,b⟩ w (h.perm hL);exact c.perm (List.Perm.swap _ _ _)
end
attribute [local irreducible] Sl.a0P Sl.OW Sl.CW Sl.OS Sl.OM Sl.OMf Sl.KM
theorem m1A (a:Ad) (s:St) (hd:0<s.depth):b1K prog 147 #[ptr a.log] .returning [HL a s] (fun e m L'=> ∃_x:Unit,True∧(∃v,e= .returned v)∧settle m= .returning∧L'= [HL a (k0T s)]):=by
 refine y1F (args:= [ptr a.log]) func147 rfl ntmps147 rfl (fun R w0=> ?_);simp only[j0X,List.cons_append,List.nil_append];refine e0C gFd fun by_ gv gc o j d=> ?_;refine y0I gFd fun v vals i k l=> ?_;refine go 21 ?_;refine a0O rfl (fun b=> ?_) (fun b=> ?_)
 ·have g:s.depth=1:=by have:=of_decide_eq_true b;omega
  have f:((s.depth:Int)-1)=((0:Nat):Int):=by omega
  refine go 6 ?_;rw[f];refine b0F (fun w h=>f0E 1 1 w h) ?_;refine b0F (q0D (a:=a) (by_:=by_) (o:=o) (log:= []) (depth:=0) (v:= .slice none 0 0) (vals:= []) ⟨by simp,[],o,List.Perm.refl _,rfl,rfl,by simp⟩ (by omega) gSp) ?_;have c:k0T s= {s with depth:=0,log:= []} :=by unfold k0T;rw[if_pos g]
  refine b0F (c0W (s:=k0T s) (by_:=by_) (gv:=gv) (gc:=gc) (o:=o) (by rw[c];exact j) (by rw[c];exact d) (by rw[c];exact gSp)) ?_;refine x0Q rfl (b0A.back gSp) ⟨(),trivial,⟨_,rfl⟩,rfl,rfl⟩
 ·have g: ¬s.depth=1:=by have:=of_decide_eq_false b;omega
  have f:((s.depth:Int)-1)=((s.depth-1:Nat):Int):=by omega
  refine go 1 ?_;rw[f];refine b0F (q0D i (depth:=s.depth-1) (by omega) gSp) ?_;have c:k0T s= {s with depth:=s.depth-1} :=by unfold k0T;rw[if_neg g]
  refine b0F (c0W (s:=k0T s) (by_:=by_) (gv:=gv) (gc:=gc) (o:=o) (by rw[c];exact j) (by rw[c];exact d) (by rw[c];exact gSp)) ?_;refine x0Q rfl (b0A.back gSp) ⟨(),trivial,⟨_,rfl⟩,rfl,rfl⟩
end
theorem v1I (W:World) (a:Ad) (t:St):RS W a (k0T t)= [whole W,dkC a t.d,dkR a t.d,m0X (l0N t.d),stC a t.bits,mpC a,HL a (k0T t)]:=by unfold k0T;split<;>rfl
theorem x0E (s:St): ∀l,(e0O s l).d=s.d∧(e0O s l).bits=s.bits
 | []=>⟨rfl,rfl⟩
 |st::l=>by
  have:=x0E s l;cases st<;>exact this
theorem v1J (m:Nat) (s:St):(d0M m s).d=s.d:=(x0E s _).1
theorem h1W (m:Nat) (s:St):(d0M m s).bits=s.bits:=(x0E s _).2
theorem z1D {C:Type} (W:World) (a:Ad) (RC:C→a0E) (g:FuncId) (cap:List Value) (run:Run (St×C) Unit) (s:St) (c:C) (hb:f0H prog g=true) (j:(o0I run (s,c)).1≠ .big)
 (i:(run ({s with depth:=s.depth+1},c)).1≠ .big→a0G prog g cap.toArray (RS W a {s with depth:=s.depth+1} ++ [RC c]) (Ran fT (fun x=>RS W a x.1++ [RC x.2]) (fun _=> .tuple #[]) (run ({s with depth:=s.depth+1},c)))):
 a0G prog 105 #[ptr a.log,.func (.func g) #[] cap.toArray] (RS W a s++ [RC c]) (Ran fT (fun x=>RS W a x.1++ [RC x.2]) (fun e=> .int .i64 e) (o0I run (s,c))):=by
 have hd:s.depth<1000000000:=by
  rcases Nat.lt_or_ge s.depth 1000000000 with h|h
  ·exact h
  ·exact(j (by simp[o0I,h])).elim
 have b: ¬1000000000≤s.depth:=by omega
 cases p:run ({s with depth:=s.depth+1},c)with
 |mk x y=>
 obtain⟨t,c'⟩:=y;rw[p]at i;cases x with
 |big=>exact(j (by simp[o0I,b,p])).elim
 |ok x=>
  have u:t.depth≠0:=fun h=>j (by simp[o0I,b,p,h]);have n:o0I run (s,c)=(.ok 0,(k0T t,c')):=by simp[o0I,b,p,u]
  have E:=u1Z g cap _ _ _ hb (i (by simp)).ran_ok;refine z0P (args:= [_,_]) func105 rfl ntmps105 rfl (fun R w0=> ?_);simp only[j0X,List.cons_append,List.nil_append];refine e0C gFd fun by_ gv gc o l m=> ?_;refine y0I gFd fun v vals d B F=> ?_;have k:=d.len;refine go 11 ?_;refine a0D (i0N Tsl.o rfl gFd) ?_;refine go 14 ?_;rw[show((s.depth:Nat):Int)+1=((s.depth+1:Nat):Int)from rfl];refine b0F (q0D d (depth:=s.depth+1) (by omega) gSp) ?_;refine b0F (c0W (s:= {s with depth:=s.depth+1}) l m gSp) ?_;refine go 4 ?_;refine i1O (f:=147) (first:= []) (cap:= []) rfl rfl ?_;refine cg 5 (E) ?_;refine go 19 ?_;refine s0A (l1A (cap:= []) (args:= [ptr a.log]) (.inr rfl) idh rfl Hb.o (m1A a t (Nat.pos_of_ne_zero u)) gSp (fun _ _=>⟨RS W a (k0T t)++ [RC c'],_,by rw[v1I];(try rw[v1J,h1W]);simp only[List.cons_append,List.nil_append];exact gSp,by rw[n];exact⟨rfl,rfl⟩⟩))
 |err e=>
  have u: ¬(t.depth=0∨e=0):=fun h=>j (by simp[o0I,b,p,h]);have n:o0I run (s,c)=(.ok e,(k0T (d0M s.log.length t),c')):=by simp[o0I,b,p,u]
  have E:=k2D g cap _ (RS W a t++ [RC c']) e hb (i (by simp));have D:(d0M s.log.length t).depth=t.depth:=(f1C t _).2;refine z0P (args:= [_,_]) func105 rfl ntmps105 rfl (fun R w0=> ?_);simp only[j0X,List.cons_append,List.nil_append];refine e0C gFd fun by_ gv gc o l m=> ?_;refine y0I gFd fun v vals d B F=> ?_;have k:=d.len;refine go 11 ?_;refine a0D (i0N Tsl.o rfl gFd) ?_;refine go 14 ?_;rw[show((s.depth:Nat):Int)+1=((s.depth+1:Nat):Int)from rfl];refine b0F (q0D d (depth:=s.depth+1) (by omega) gSp) ?_;refine b0F (c0W (s:= {s with depth:=s.depth+1}) l m gSp) ?_;refine go 4 ?_;refine i1O (f:=147) (first:= []) (cap:= []) rfl rfl ?_;refine cg 5 (E) ?_;refine go 10 ?_;refine d0P rfl (by simp;exact fun h=>u (.inr h)) ?_;rw[←k];refine e0C gFd fun w A z G q r=> ?_;refine ce 3 (u2V a w A z G t s.log.length q r) ?_;rintro⟨gv3,gc3,o3⟩ hx;refine ns ?_;refine go 1 ?_;refine b0F (c0W (s:=d0M s.log.length t) hx.1 hx.2 gSp) ?_;refine go 7 ?_;refine s0A (l1A (cap:= []) (args:= [ptr a.log]) (.inr rfl) idh rfl Hb.o (m1A a (d0M s.log.length t) (by rw[D];omega)) gSp (fun _ _=>⟨RS W a (k0T (d0M s.log.length t))++ [RC c'],_,by rw[v1I];(try rw[v1J,h1W]);simp only[List.cons_append,List.nil_append];exact gSp,by rw[n];exact⟨rfl,rfl⟩⟩))
abbrev dk3 (a:Ad) (d:Dk):List a0E:= [dkC a d,dkR a d,m0X (l0N d)]
def i0S (_:Unit):Value:= .tuple #[]
theorem p0P (a:Ad) (d:Dk) (h:d.dead=false):a0G prog 225 #[ptr a.disk] [dkC a d] (a0T (.tuple #[]) [dkC a d]):=by
 refine en func225 ntmps225 fun R w0=> ?_;refine go 8 ?_;refine b0S rfl h ?_;refine go 1 ?_;refine d0Q rfl rfl gSp
theorem j1S (a:Ad) (d:Dk) (h:d.dead=true):a0G prog 225 #[ptr a.disk] [dkC a d] (fun en L=>en= .panicked (t0H fT 12)∧L= [dkC a d]):=by
 refine en func225 ntmps225 fun R w0=> ?_;refine go 8 ?_;refine d0P rfl h ?_;refine go 1 ?_;refine c0A rfl Hb.o rfl (c0M 12) gSp ?_;refine ns ?_;refine pn ?_;refine d0U idh (b0A.back gSp) ⟨rfl,rfl⟩
theorem c1Q (a:Ad) (d:Dk) (at_:Int) (h: ¬(at_<0∨(d.l.length:Int)≤at_)):a0G prog 226 #[ptr a.disk,.int .i64 at_] [dkC a d,dkR a d] (a0T (.tuple #[]) [dkC a d,dkR a d]):=by
 refine en func226 ntmps226 fun R w0=> ?_;refine n0W gFd fun p cap e b c=> ?_;refine go 10 ?_;refine b0Z (i0N Tsl.o rfl gFd) (wg rfl rfl rfl (wFF gF)) ?_;refine go 6 ?_;refine d0Q rfl rfl gSp
theorem v1K (a:Ad) (d:Dk) (at_:Int) (h:at_<0∨(d.l.length:Int)≤at_):a0G prog 226 #[ptr a.disk,.int .i64 at_] [dkC a d,dkR a d] (fun en L=>en= .panicked (t0H fT 6)∧L= [dkC a d,dkR a d]):=by
 by_cases b:at_<0
 ·refine en func226 ntmps226 fun R w0=> ?_;refine go 17 ?_;refine c0A rfl Hb.o rfl (c0M 6) gSp ?_;refine ns ?_;refine pn ?_;refine d0U idh (b0A.back gSp) ⟨rfl,rfl⟩
 ·refine en func226 ntmps226 fun R w0=> ?_;refine go 10 ?_;refine b0Z (i0N Tsl.o rfl gFd) (wg rfl rfl rfl (wFF gF)) ?_;refine go 6 ?_;refine c0A rfl Hb.o rfl (c0M 6) gSp ?_;refine ns ?_;refine pn ?_;refine d0U idh (b0A.back gSp) ⟨rfl,rfl⟩
theorem f2I (a:Ad) (d:Dk) (i:d.left<4611686018427387904):a0G prog 285 #[ptr a.disk] [dkC a d] (Ran fT (fun d=> [dkC a d]) i0S (k0W d)):=by
 by_cases g:d.dead=true
 ·have e:k0W d=(.err 12,d):=by simp[k0W,g]
  rw[e];refine en func285 ntmps285 fun R w0=> ?_;refine go 3 ?_;refine c0A rfl Hb.o rfl (j1S a d g) gSp ?_;refine ns ?_;refine pn ?_;refine d0U idh (b0A.back gSp) ⟨rfl,rfl⟩
 ·have b:d.dead=false:=by simpa using g
  by_cases h:d.armed=false
  ·have e:k0W d=(.ok (),d):=by simp[k0W,b,h]
   rw[e];refine en func285 ntmps285 fun R w0=> ?_;refine cg 3 (p0P a d b) ?_;refine go 12 ?_;refine d0P rfl (by rw[h];rfl) ?_;exact rR idh rfl
  ·have c:d.armed=true:=by simpa using h
   cases f:d.left with
   |zero=>
    have e:k0W d=(.err 12,{d with dead:=true}):=by simp[k0W,b,c,f]
    rw[e];refine en func285 ntmps285 fun R w0=> ?_;refine cg 3 (p0P a d b) ?_;refine go 12 ?_;refine b0S rfl (by rw[c];rfl) ?_;refine go 12 ?_;refine d0P rfl (by rw[f];rfl) ?_;refine go 9 ?_;refine c0A rfl Hb.o rfl (c0M 12) gSp ?_;refine ns ?_;refine pn ?_;refine d0U idh (b0A.back gSp) ⟨rfl,rfl⟩
   |succ n=>
    have e:k0W d=(.ok (),{d with left:=n}):=by simp[k0W,b,c,f]
    rw[e];refine en func285 ntmps285 fun R w0=> ?_;refine cg 3 (p0P a d b) ?_;refine go 12 ?_;refine b0S rfl (by rw[c];rfl) ?_;refine go 12 ?_;refine b0S rfl (by rw[f];exact decide_eq_false (by omega)) ?_;refine go 12 ?_;rw[show((d.left:Nat):Int)-1=((n:Nat):Int) by omega];exact fR rfl
abbrev b0C (s:B):Value:= .string (bs s)
theorem k2G {l:List (B×B)} {i:Nat} {x:B×B} (h:l[i]? =some x):nth (l.flatMap t0U) (2*i)=some (b0C x.1)∧nth (l.flatMap t0U) (2*i+1)=some (b0C x.2):=by
 induction l generalizing i with
 |nil=>simp at h
 |cons y l ih=>
  cases i with
  |zero=>simp at h;subst h;exact⟨rfl,rfl⟩
  |succ i=>
   have:=ih (i:=i) (by simpa using h);simp only[List.flatMap_cons];exact this
theorem u0L (l:List (B×B)):(l.flatMap t0U).length=l.length*2:=by
 induction l with
 |nil=>rfl
 |cons x l ih=>simp only[List.flatMap_cons,List.length_append,ih,List.length_cons,t0U];simp;omega
theorem u2W (l:List (B×B)) (i:Nat) (x:B×B) (v:B) (h:l[i]? =some x):(l.flatMap t0U).set (2*i+1) (b0C v)=(l.set i (x.1,v)).flatMap t0U:=by
 induction l generalizing i with
 |nil=>simp at h
 |cons y l ih=>
  cases i with
  |zero=>simp at h;subst h;rfl
  |succ i=>
   have:=ih i (by simpa using h);simp only[List.flatMap_cons,List.set_cons_succ];show _=t0U y++_;rw[←this];rfl
theorem f2J {d:Dk} {at_:Int} (h: ¬(at_<0∨(d.l.length:Int)≤at_)):d.l[at_.toNat]? =some (d.l.getD at_.toNat ([],[])):=by
 have:at_.toNat<d.l.length:=by omega
 simp[List.getD_eq_getElem?_getD,List.getElem?_eq_getElem this]
theorem f2K (a:Ad) (d:Dk) (at_:Int):a0G prog 187 #[ptr a.disk,.int .i64 at_] [dkC a d,dkR a d] (Ran fT (fun _=> [dkC a d,dkR a d]) b0C (n0U d at_,d)):=by
 by_cases i:d.dead=true
 ·have e:n0U d at_= .err 12:=by simp[n0U,i]
  rw[e];refine en func187 ntmps187 fun R w0=> ?_;refine go 8 ?_;refine c0A rfl Hb.o rfl (j1S a d i) gSp ?_;refine ns ?_;refine pn ?_;refine d0U idh (b0A.back gSp) ⟨rfl,rfl⟩
 ·have c:d.dead=false:=by simpa using i
  by_cases f:at_<0∨(d.l.length:Int)≤at_
  ·have e:n0U d at_= .err 6:=by simp[n0U,c,f]
   rw[e];refine en func187 ntmps187 fun R w0=> ?_;refine cg 8 (p0P a d c) ?_;refine go 6 ?_;refine c0A rfl Hb.o rfl (v1K a d at_ f) gSp ?_;refine ns ?_;refine pn ?_;refine d0U idh (b0A.back gSp) ⟨rfl,rfl⟩
  ·have e:n0U d at_= .ok (d.l.getD at_.toNat ([],[])).2:=by simp[n0U,c,f]
   have j:=k2G (f2J f);rw[e];refine en func187 ntmps187 fun R w0=> ?_;refine n0W gFd fun p cap m g k=> ?_;refine cg 8 (p0P a d c) ?_;refine cg 6 (c1Q a d at_ f) ?_;refine go 3 ?_;refine i0T gFd (by omega) fun b cap h g=> ?_;simp only[dkC,dkR];rw[h];refine go 8 ?_;refine a0D (a0X Sc.o rfl gFd (by rw[show 0+at_.toNat*2+1=2*at_.toNat+1 by omega];exact j.2)) ?_;refine go 3 ?_;rw[←h];exact rR idh rfl
def stl (x:Nat):Nat:=if x=2 then 0 else x
def j0G (l:List Nat) (i:Nat):List Nat:=(l.take i).map stl++l.drop i
theorem y0K (l:List Nat) (i:Nat) (h:i≤l.length):(j0G l i).length=l.length:=by simp[j0G];omega
theorem f1D (l:List Nat) (i:Nat) (h:i<l.length):(j0G l i)[i]? =some l[i]:=by
 unfold j0G;rw[List.getElem?_append_right (by simp;omega)];simp[Nat.min_eq_left (Nat.le_of_lt h),List.getElem?_eq_getElem h]
theorem d1S (l:List Nat) (i:Nat) (h:i<l.length):(j0G l i).set i (stl l[i])=j0G l (i+1):=by
 unfold j0G;rw[List.set_append_right _ _ (by simp;omega)];have a:i- ((l.take i).map stl).length=0:=by simp;omega
 rw[a,List.drop_eq_getElem_cons h,List.set_cons_zero];simp only[List.take_succ,List.getElem?_eq_getElem h,Option.toList_some,List.map_append,List.map_cons,List.map_nil,List.append_assoc,List.cons_append,List.nil_append]
theorem r1T (l:List Nat) (i:Nat) (h:i<l.length) (a: ¬l[i]=2):j0G l i=j0G l (i+1):=by
 rw[←d1S l i h,show stl l[i]=l[i] by simp[stl,a]];apply List.ext_getElem?;intro k;rw[List.getElem?_set];split
 ·rename_i b;subst b;rw[f1D l _ h];simp[y0K l _ (Nat.le_of_lt h),h]
 ·rfl
abbrev gmN (b bl fr n:Nat) (l:List Nat):List a0E:= [pts b (.cells #[.int .i64 fr,.slice (some ⟨bl,0,none⟩) n n,.int .i64 (l.count 0),.int .i64 (l.count 1),.int .i64 (l.count 2)] 192 (0,0)),pts bl (.cells (l.map gst).toArray 3 (0,0))]
theorem gm_N {b bl fr:Nat} {l:List Nat} {n:Nat} (h:l.length=n):gm b bl fr l=gmN b bl fr n l:=by subst h;rfl
theorem v1L (b bl fr:Nat) (l:List Nat) (h:fr≤5000) (r:l.length≤5000) (p: ∀x∈l,x<3):
 a0G prog 104 #[.pointer (some ⟨b,0,none⟩)] (gm b bl fr l) (a0T (.tuple #[]) (gm b bl fr (g0B l))):=by
 refine en func104 ntmps104 fun R w0=> ?_
 try simp only[gm,l0V]
 refine go 11 ?_;refine k1U (L':=gmN b bl fr l.length (j0G l 0)++ [R]) (by simp[j0G,gmN]) ?_;simp only[gmN,List.cons_append,List.nil_append];refine a0V (X:= {i:Nat // i≤l.length}) (fun x=> [(0,.pointer (some ⟨b,0,none⟩)),(7,.slice (some ⟨bl,0,none⟩) l.length l.length),(8,.int .i64 l.length),(9,.int .i64 x.1)]) (fun x=>gmN b bl fr l.length (j0G l x.1)++ [R]) (fun x=>l.length-x.1) ⟨0,by omega⟩ gSu gSp ?_;rintro⟨i,hi⟩ m0 hm0
 try simp only at hm0
 try dsimp only
 have m:=y0K l i hi;simp only[gmN,List.cons_append,List.nil_append];refine go 6 ?_;refine a0O rfl (fun c=> ?_) (fun c=> ?_)
 ·have a:i<l.length:=by have:=of_decide_eq_true c;omega
  have g0X:=f1D l i a;have j:=p _ (List.getElem_mem a);refine go 8 ?_;refine a0D (b0N Sc.o rfl (l1W g0X (by omega))) ?_;refine go 10 ?_;refine a0O rfl (fun d=> ?_) (fun d=> ?_)
  ·have g:l[i]=2:=by have:=of_decide_eq_true d;omega
   have e:=e1V b bl fr i l[i] 0 (j0G l i) _ rfl g0X j (by omega) h (by omega);have f:=d1S l i a;rw[show stl l[i]=0 by simp[stl,g]]at f;rw[f,gm_N m,gm_N (y0K l (i+1) a)]at e;refine cg 8 (e) ?_;refine go 6 ?_;exact rd idh (⟨i+1,a⟩)
  ·have g: ¬l[i]=2:=by have:=of_decide_eq_false d;omega
   have n:=r1T l i a g;rw[n];refine go 6 ?_;exact rd idh (⟨i+1,a⟩)
 ·have a:i=l.length:=by have:=of_decide_eq_false c;omega
  subst a;have q:j0G l l.length=g0B l:=by simp[j0G,g0B];intro x _;rfl
  rw[q];have k:(g0B l).length=l.length:=by simp[g0B]
  refine go 1 ?_;rw[k];refine d0Q rfl rfl gSp
theorem d0B {a:Ad} {by_:Nat} {gv:Value} {gc:List (Nat×Obj)} {s:St} :TT a by_ gv gc s= [i0R a by_ gv s.keep,b0E (i0G gc),b0K by_ a0H a0H s.young,b0K a.refs a0H a0H s.refs,b0K a.ix d0X a0H s.index,b0K a.vols e0J e0E s.vols,s0F a s.next s.epoch,
 pts a.gr (.cells (l0V s.fr a.grl s.g).toArray 192 (0,0)),pts a.grl (.cells (s.g.map gst).toArray 3 (0,0))]:=rfl
theorem f2L (a:Ad) (s:St):a0G prog 17 #[ptr a.heap] [HL a s] (a0T (.int .i64 (a0Y s)) [HL a s]):=by
 refine en func17 ntmps17 fun R w0=> ?_;refine e0C gFd fun by_ gv gc o c b=> ?_;simp only[d0B,c0R,List.cons_append,List.nil_append];refine cg 11 (w0R a.gr a.grl s.fr s.g) ?_;refine go 3 ?_;refine b0U (c0W c b gSp) (g1H idh rfl rfl gSp)
theorem c1R (a:Ad) (s:St):a0G prog 20 #[ptr a.heap] [HL a s] (a0T (.int .i64 (d2R s)) [HL a s]):=by
 refine en func20 ntmps20 fun R w0=> ?_;refine e0C gFd fun by_ gv gc o c b=> ?_;simp only[d0B,c0R,List.cons_append,List.nil_append];refine cg 11 (f2A a.gr a.grl s.fr s.g) ?_;refine go 3 ?_;refine b0U (c0W c b gSp) (g1H idh rfl rfl gSp)
theorem q1F (a:Ad) (s:St):a0G prog 106 #[ptr a.log] [HL a s] (a0T (.int .i64 s.depth) [HL a s]):=by
 refine en func106 ntmps106 fun R w0=> ?_;refine e0C gFd fun by_ gv gc o e d=> ?_;refine y0I gFd fun v vals c b f=> ?_;refine go 14 ?_;refine b0U (q0D c b gSp) (b0U (c0W e d gSp) (g1H idh rfl rfl gSp))
theorem f1E (W:World) (a:Ad) (s:St) (at_:Int):a0G prog 152 #[ptr a.heap,.int .i64 at_] (RS W a s) (Ran fT (RS W a) b0C (g0X at_ s)):=by
 by_cases h:c0N s at_=0
 ·have e:g0X at_ s=(.err 6,s):=by simp[g0X,h]
  rw[e];have f:(a0C at_ s.refs).getD 0=0:=h;refine en func152 ntmps152 fun R w0=> ?_;refine e0C gFd fun by_ gv gc o g c=> ?_;simp only[d0B,c0R,List.cons_append,List.nil_append];refine go 13 ?_;refine a0D (e0Q (ek:=a0H) (ev:=a0H) c0Y.o h0C (tt fun _=>trivial) trivial Zr.o rfl rfl gFd e0I) ?_;refine go 3 ?_;refine d0P rfl (decide_eq_true f) ?_;refine go 1 ?_;refine c0A rfl Hb.o rfl (c0M 6) gSp ?_;refine ns ?_;refine pn ?_;refine b0F (c0W g c gSp) (d0U idh (b0A.back gSp) ⟨rfl,rfl⟩)
 ·have e:g0X at_ s=(n0U s.d at_,s):=by simp[g0X,h]
  have f: ¬(a0C at_ s.refs).getD 0=0:=h;rw[e];have i:=f2K a s.d at_;cases hd:n0U s.d at_ with
  |big=>simp[n0U]at hd;split at hd<;>(try split at hd)<;>cases hd
  |ok b=>
   rw[hd]at i;refine en func152 ntmps152 fun R w0=> ?_;refine e0C gFd fun by_ gv gc o g c=> ?_;simp only[d0B,c0R,List.cons_append,List.nil_append];refine go 13 ?_;refine a0D (e0Q (ek:=a0H) (ev:=a0H) c0Y.o h0C (tt fun _=>trivial) trivial Zr.o rfl rfl gFd e0I) ?_;refine go 3 ?_;refine b0S rfl (decide_eq_false f) ?_;refine cg 9 (i.ran_ok) ?_;refine go 3 ?_;refine b0U (c0W g c gSp) (n0M rfl idh rfl rfl gSp)
  |err e'=>
   rw[hd]at i;refine en func152 ntmps152 fun R w0=> ?_;refine e0C gFd fun by_ gv gc o g c=> ?_;simp only[d0B,c0R,List.cons_append,List.nil_append];refine go 13 ?_;refine a0D (e0Q (ek:=a0H) (ev:=a0H) c0Y.o h0C (tt fun _=>trivial) trivial Zr.o rfl rfl gFd e0I) ?_;refine go 3 ?_;refine b0S rfl (decide_eq_false f) ?_;refine go 9 ?_;refine c0A rfl Hb.o rfl (i) gSp ?_;refine ns ?_;refine pn ?_;refine b0F (c0W g c gSp) (d0U idh (b0A.back gSp) ⟨rfl,rfl⟩)
theorem k2H {s:St} (a:o0M s):o0M {s with g:=g0B s.g,young:= []} :=⟨a.1,by simpa [g0B] using a.2.1,fun x b=>by
 obtain⟨y,c,rfl⟩:=List.mem_map.1 b;have:=a.2.2.1 y c;split<;>omega,a.2.2.2⟩
theorem v1M (a:Ad) (s:St) (i:s.depth=0∧s.log= []):a0G prog 48 #[ptr a.heap] [HL a s] (a0T (.tuple #[]) [HL a {s with g:=g0B s.g,young:= []}]):=by
 refine en func48 ntmps48 fun R w0=> ?_;refine e0C gFd fun by_ gv gc o j b=> ?_;refine y0I gFd fun v vals e d k=> ?_;simp only[d0B,c0R,List.cons_append,List.nil_append];have f:vals= []:=by have:=e.len;rw[i.2]at this;exact List.eq_nil_of_length_eq_zero this.symm
 subst f;refine cg 6 (v1L a.gr a.grl s.fr s.g b.1 b.2.1 b.2.2.1) ?_;refine go 2 ?_;skip;refine go 2 ?_;refine(r0G (fun c=> ?_));refine go 4 ?_;refine b0F (q0D (a:=a) (by_:=c) (o:=o) (log:=s.log) (depth:=s.depth) (v:=v) (vals:= []) (by rw[i.2];exact⟨by simp,[],o,List.Perm.refl _,rfl,rfl,by simp⟩) d gSp) ?_;refine b0F (fun w h=>x0R a0H a0H ((show Fnd _ (pts c _) _ from gFd).sat h)) ?_;refine b0F (c0W (s:= {s with g:=g0B s.g,young:= []}) (by_:=c) j (k2H b) gSp) ?_;refine d0Q rfl rfl gSp
theorem f1F (x:Int):IntKind.i64.wrap x=j0Z x:=by rw[IntKind.wrap_i64];rfl
theorem a1A {s:St} {k v:Int} (h:(h0I k v s).1≠ .big):s.log.length<1000000000:=by
 rcases Nat.lt_or_ge s.log.length 1000000000 with a|a
 ·exact a
 ·exact(h (by simp[h0I,a0B,back,a])).elim
theorem w0S {s:St} (k v:Int) (h:s.log.length<1000000000):h0I k v s=(.ok (),{s with log:=bk s.depth s.log (.refs k (a0C k s.refs)),refs:=b0O k v s.refs}):=by
 simp[h0I,a0B,back,show ¬1000000000≤s.log.length by omega]
theorem z1E {s:St} (k v:Int) (h:s.log.length<1000000000):m0E k v s=(.ok (),{s with log:=bk s.depth s.log (.young k (a0C k s.young)),young:=b0O k v s.young}):=by
 simp[m0E,a0B,back,show ¬1000000000≤s.log.length by omega]
theorem f2M {s:St} (v:Int) (h:s.log.length<1000000000):x0A v s=(.ok (),{s with log:=bk s.depth s.log (.keep s.keep),keep:=v}):=by
 simp[x0A,a0B,back,show ¬1000000000≤s.log.length by omega]
theorem b2Z {s:St} {α:Type} {o:Out α×St} (h:o.1≠ .big) (hb:1000000000≤s.log.length→o.1= .big):s.log.length<1000000000:=by
 rcases Nat.lt_or_ge s.log.length 1000000000 with a|a
 ·exact a
 ·exact(h (hb a)).elim
theorem c1S (W:World) (a:Ad) (s:St) (at_:Int) (d:(k0S at_ s).1≠ .big):a0G prog 201 #[ptr a.heap,.int .i64 at_] (RS W a s) (Ran fT (RS W a) i0S (k0S at_ s)):=by
 by_cases f:c0N s at_=0
 ·have e:k0S at_ s=(.err 6,s):=by simp[k0S,f]
  rw[e];have b:(a0C at_ s.refs).getD 0=0:=f;refine en func201 ntmps201 fun R w0=> ?_;refine e0C gFd fun by_ gv gc o h c=> ?_;simp only[d0B,c0R,List.cons_append,List.nil_append];refine go 8 ?_;refine a0D (e0Q (ek:=a0H) (ev:=a0H) c0Y.o h0C (tt fun _=>trivial) trivial Zr.o rfl rfl gFd e0I) ?_;refine go 3 ?_;refine d0P rfl (decide_eq_true b) ?_;refine go 1 ?_;refine c0A rfl Hb.o rfl (c0M 6) gSp ?_;refine ns ?_;refine pn ?_;refine b0F (c0W h c gSp) (d0U idh (b0A.back gSp) ⟨rfl,rfl⟩)
 ·have g:k0S at_ s=h0I at_ (j0Z (c0N s at_+1)) s:=by simp[k0S,f]
  rw[g]at d;have i:=a1A d;rw[w0S _ _ i]at g;rw[g];have b: ¬(a0C at_ s.refs).getD 0=0:=f;refine en func201 ntmps201 fun R w0=> ?_;refine e0C gFd fun by_ gv gc o h c=> ?_;simp only[d0B,c0R,List.cons_append,List.nil_append];refine go 8 ?_;refine a0D (e0Q (ek:=a0H) (ev:=a0H) c0Y.o h0C (tt fun _=>trivial) trivial Zr.o rfl rfl gFd e0I) ?_;refine go 3 ?_;refine b0S rfl (decide_eq_false b) ?_;refine go 2 ?_;refine tl 16 ?_;refine go 14 ?_;refine b0V (e0Q (ek:=a0H) (ev:=a0H) c0Y.o h0C (tt fun _=>trivial) trivial Zr.o rfl rfl gFd e0I) ?_;refine b0V (g1D rfl rfl) ?_;refine go 1 ?_;rw[f1F];refine d0Z rfl Hb.o rfl (q0E a by_ o s.log s.depth a.refs s.refs at_ (j0Z (c0N s at_+1)) (.refs at_ (a0C at_ s.refs)) i (fun _ _ _ _=>⟨_,_,_,_,.inl rfl,rfl⟩)) gSp ?_;rintro e _;refine ns ?_;refine go 1 ?_;refine b0F (c0W (s:= {s with log:=bk s.depth s.log (.refs at_ (a0C at_ s.refs)),refs:=b0O at_ (j0Z (c0N s at_+1)) s.refs}) h c gSp) (x0B rfl rfl rfl gSp)
theorem m1B (W:World) (a:Ad) (s:St) (n:Int) (b:(o0R n s).1≠ .big):a0G prog 117 #[ptr a.heap,.int .i64 n] (RS W a s) (Ran fT (RS W a) i0S (o0R n s)):=by
 have d:s.log.length<1000000000:=b2Z b fun h=>by simp[o0R,x0A,a0B,back,h]
 rw[show o0R n s=_ from f2M (max n 0) d];refine en func117 ntmps117 fun R w0=> ?_;refine e0C gFd fun by_ gv gc o f c=> ?_;simp only[d0B,c0R,List.cons_append,List.nil_append];refine tl 9 ?_;refine ce 10 (y1Y a by_ o s.log s.depth gv s.keep (max n 0) d) ?_;rintro e _;refine ns ?_;refine go 1 ?_;refine b0F (c0W (s:= {s with log:=bk s.depth s.log (.keep s.keep),keep:=max n 0}) f c gSp) (x0B rfl rfl rfl gSp)
def g1X (fr:Nat) (g:List Nat) (x:Int):List Nat:=mvL fr (mvL fr g x 2 1) x 1 0
def gAt (s:St) (i:Nat):List Nat:=(s.gone.take i).foldl (g1X s.fr) s.g
theorem p2M (s:St) (i:Nat) (h:i<s.gone.length):gAt s (i+1)=g1X s.fr (gAt s i) s.gone[i]:=by
 unfold gAt;rw[List.take_succ,List.getElem?_eq_getElem h,List.foldl_append];rfl
theorem k2I (s:St) (a:o0M s) (i:Nat):(gAt s i).length=s.g.length∧ ∀x∈gAt s i,x<3:=by
 unfold gAt;generalize s.gone.take i=l;have key: ∀(l:List Int) (g:List Nat),(∀x∈g,x<3)→(l.foldl (g1X s.fr) g).length=g.length∧ ∀x∈l.foldl (g1X s.fr) g,x<3:=by
  intro l
  induction l with
  |nil=>intro g h;exact⟨rfl,h⟩
  |cons y l ih=>
   intro g h;have:=ih (g1X s.fr g y) (u0P (by omega) (u0P (by omega) h));exact⟨by rw[List.foldl_cons,this.1];simp[g1X,u0O],this.2⟩
 exact key l s.g a.2.2.1
theorem z1F (s:St):u0F s= {s with g:=gAt s s.gone.length,gone:= []} :=by simp[u0F,gAt];rfl
theorem c0C {w:World} {M:List a0E} (h:Sat w M):Sat w (b0E []::M):=b0M.2 h
theorem u2X {cur:List Value} {l:List Int} (h:cur.take l.length=l.map a0H) {i k:Nat} (hi:i<l.length) (a:k=i):nth cur k=some (.int .i64 l[i]):=by
 subst a;rw[e0F];have:(cur.take l.length)[k]? =some (a0H l[k]):=by rw[h];simp[hi]
 rw[List.getElem?_take_of_lt hi]at this;exact this
theorem o1L (a:Ad) (s:St):a0G prog 107 #[ptr a.heap] [HL a s] (a0T (.tuple #[]) [HL a (u0F s)]):=by
 rw[z1F];refine en func107 ntmps107 fun R w0=> ?_;refine e0C gFd fun by_ gv gc o u b=> ?_;simp only[d0B,c0R,List.cons_append,List.nil_append];obtain⟨j,⟨m,rfl,rfl⟩| ⟨g,cap,cur,rfl,q,n,t,p,rfl⟩⟩:=u
 ·refine go 12 ?_;refine a0V (X:=Unit) (fun _=> [(0,ptr a.heap),(7,.slice none 0 0),(8,.int .i64 0),(9,.int .i64 0)]) (fun _=> [i0R a by_ (.slice none 0 0) s.keep,e0K a by_ o s.log s.depth,b0E (i0G []),b0K by_ a0H a0H s.young,b0K a.refs a0H a0H s.refs,b0K a.ix d0X a0H s.index,b0K a.vols e0J e0E s.vols,s0F a s.next s.epoch,pts a.gr (.cells (l0V s.fr a.grl s.g).toArray 192 (0,0)),pts a.grl (.cells (s.g.map gst).toArray 3 (0,0)),R]) (fun _=>0) () gSu gSp ?_;rintro x y e
  try simp only at e
  try dsimp only
  skip;refine go 15 ?_;rw[show gAt s s.gone.length=s.g by simp[gAt,m]];refine b0F (c0W (s:= {s with g:=s.g,gone:= []}) (gv:= .slice none 0 0) (gc:= []) ⟨by simp,.inl ⟨rfl,rfl,rfl⟩⟩ b gSp) (d0Q rfl rfl gSp)
 ·try simp only[i0G,List.map_cons,List.map_nil]
  refine b0U (L':=pts g (.cells cur.toArray 3 (0,0)):: [i0R a by_ (.slice (some ⟨g,0,none⟩) s.gone.length cap) s.keep,e0K a by_ o s.log s.depth,b0K by_ a0H a0H s.young,b0K a.refs a0H a0H s.refs,b0K a.ix d0X a0H s.index,b0K a.vols e0J e0E s.vols,s0F a s.next s.epoch,pts a.gr (.cells (l0V s.fr a.grl (gAt s 0)).toArray 192 (0,0)),pts a.grl (.cells ((gAt s 0).map gst).toArray 3 (0,0)),R]) (fun w h=> ?_) ?_
  ·have r:=b0M.1 ((show Fnd _ (b0E _) _ from gFd).sat h);exact r.re gSp
  have f:=fun i=>(k2I s b i).1;have v:s.gone.length≤9223372036854775807:=by simp only[maxLen]at n;omega
  try simp only[c0R]
  refine go 12 ?_;refine a0V (X:= {i:Nat // i≤s.gone.length}) (fun x=> [(0,ptr a.heap),(7,.slice (some ⟨g,0,none⟩) s.gone.length cap),(8,.int .i64 s.gone.length),(9,.int .i64 x.1)]) (fun x=> [pts g (.cells cur.toArray 3 (0,0)),i0R a by_ (.slice (some ⟨g,0,none⟩) s.gone.length cap) s.keep,e0K a by_ o s.log s.depth,b0K by_ a0H a0H s.young,b0K a.refs a0H a0H s.refs,b0K a.ix d0X a0H s.index,b0K a.vols e0J e0E s.vols,s0F a s.next s.epoch]++gm a.gr a.grl s.fr (gAt s x.1)++ [R]) (fun x=>s.gone.length-x.1) ⟨0,by omega⟩ gSu gSp ?_;rintro⟨i,hi⟩ y e
  try simp only at e
  try dsimp only
  simp only[c0R,List.cons_append,List.nil_append];refine go 6 ?_;refine a0O rfl (fun d=> ?_) (fun d=> ?_)
  ·have c:i<s.gone.length:=by have:=of_decide_eq_true d;omega
   have k:(gAt s i).length≤5000:=by rw[f];exact b.2.1
   refine go 7 ?_;refine a0D (b0N Sc.o rfl (u2X p c (by omega))) ?_;refine go 10 ?_;refine b0X rfl Hb.o rfl (l1Z a.gr a.grl s.fr (gAt s i) s.gone[i] (t0T (j _ (List.getElem_mem c))) b.1 k) gSp ?_;refine ns ?_;refine go 8 ?_;refine b0X rfl Hb.o rfl (l1Y a.gr a.grl s.fr (mvL s.fr (gAt s i) s.gone[i] 2 1) s.gone[i] (t0T (j _ (List.getElem_mem c))) b.1 (by rw[u0O];exact k)) gSp ?_;refine ns ?_;refine go 1 ?_;rw[show mvL s.fr (mvL s.fr (gAt s i) s.gone[i] 2 1) s.gone[i] 1 0=gAt s (i+1)from(p2M s i c).symm];refine go 5 ?_;exact rd idh (⟨i+1,c⟩)
  ·have c:i=s.gone.length:=by have:=of_decide_eq_false d;omega
   subst c;have l:o0M {s with g:=gAt s s.gone.length,gone:= []} :=⟨b.1,by show(gAt s _).length≤_;rw[f];exact b.2.1,(k2I s b _).2,b.2.2.2⟩;refine go 8 ?_;refine b0F (fun w h=>c0C h) (b0F (c0W (s:= {s with g:=gAt s s.gone.length,gone:= []}) (by_:=by_) (o:=o) (gv:= .slice none 0 0) (gc:= []) ⟨by simp,.inl ⟨rfl,rfl,rfl⟩⟩ l gSp) (d0Q rfl rfl gSp))
theorem m1C {C:Type} (run:Run (St×C) Unit) (x:St×C) (e:Int) (y:St×C):o0I run x≠(.err e,y):=by
 unfold o0I;split
 ·intro h;cases h
 ·split
  ·split<;>(intro h;cases h)
  ·split<;>(intro h;cases h)
  ·intro h;cases h
theorem t0V {C:Type} (W:World) (a:Ad) (RC:C→a0E) (g:FuncId) (cap:List Value) (run:Run (St×C) Unit) (s:St) (c:C) (hb:f0H prog g=true) (k:(o0J run (s,c)).1≠ .big)
 (m:(run ({s with depth:=s.depth+1},c)).1≠ .big→a0G prog g cap.toArray (RS W a {s with depth:=s.depth+1} ++ [RC c]) (Ran fT (fun x=>RS W a x.1++ [RC x.2]) (fun _=> .tuple #[]) (run ({s with depth:=s.depth+1},c)))):
 a0G prog 50 #[ptr a.heap,.func (.func g) #[] cap.toArray] (RS W a s++ [RC c]) (Ran fT (fun x=>RS W a x.1++ [RC x.2]) (fun e=> .int .i64 e) (o0J run (s,c))):=by
 have u:=z1D W a RC g cap run s c hb (c0I k) m;cases l:o0I run (s,c)with
 |mk x y=>
 obtain⟨t,c'⟩:=y;rw[l]at u;cases x with
 |big=>exact(c0I k (by rw[l])).elim
 |err e=>exact(m1C _ _ _ _ l).elim
 |ok e=>
  have j:=u.ran_ok;by_cases r:t.depth=0
  ·have i:o0J run (s,c)=(.ok e,(u0F t,c')):=by simp[o0J,a0B,l,r]
   rw[i];refine en func50 ntmps50 fun R w0=> ?_;refine e0C gFd fun by_ gv gc o f h=> ?_;simp only[d0B,c0R,List.cons_append,List.nil_append];refine go 6 ?_;skip;refine go 6 ?_;refine e0X (c0W f h gSp) (b0X rfl Hb.o rfl (j) gSp ?_);refine ns ?_;refine go 5 ?_;refine e0C gFd fun n q p v b d=> ?_;simp only[d0B,c0R,List.cons_append,List.nil_append];refine go 5 ?_;refine e0X (c0W b d gSp) (b0X rfl Hb.o rfl (q1F a t) gSp ?_);refine ns ?_;refine go 3 ?_;refine d0P rfl (by rw[r];rfl) ?_;refine cg 2 (o1L a t) ?_;refine go 8 ?_;exact rR idh rfl
  ·have i:o0J run (s,c)=(.ok e,(t,c')):=by simp[o0J,a0B,l,r]
   rw[i];refine en func50 ntmps50 fun R w0=> ?_;refine e0C gFd fun by_ gv gc o f h=> ?_;simp only[d0B,c0R,List.cons_append,List.nil_append];refine go 12 ?_;refine e0X (c0W f h gSp) (b0X rfl Hb.o rfl (j) gSp ?_);refine ns ?_;refine go 5 ?_;refine e0C gFd fun n q p v b d=> ?_;simp only[d0B,c0R,List.cons_append,List.nil_append];refine go 5 ?_;refine e0X (c0W b d gSp) (b0X rfl Hb.o rfl (q1F a t) gSp ?_);refine ns ?_;refine go 3 ?_;refine b0S rfl (decide_eq_false (by omega)) ?_;refine go 8 ?_;exact rR idh rfl
theorem t0W {n:Nat} {α S:Type} {o:Out α×S} (h:o.1≠ .big) (hb:1000000000≤n→o.1= .big):n<1000000000:=by
 rcases Nat.lt_or_ge n 1000000000 with a|a
 ·exact a
 ·exact(h (hb a)).elim
theorem h1X {s:St} (k:Int) (h:s.log.length<1000000000):l0B k s=(.ok (),{s with log:=bk s.depth s.log (.refs k (a0C k s.refs)),refs:=b0D k s.refs}):=by
 simp[l0B,a0B,back,show ¬1000000000≤s.log.length by omega]
theorem f1G {s:St} (k:Int) (h:s.log.length<1000000000):f0M k s=(.ok (),{s with log:=bk s.depth s.log (.young k (a0C k s.young)),young:=b0D k s.young}):=by
 simp[f0M,a0B,back,show ¬1000000000≤s.log.length by omega]
theorem f2N {s:St} (l:List Int) (a:l.length<1000000000) (h:s.log.length<1000000000):h0X l s=(.ok (),{s with log:=bk s.depth s.log (.gone s.gone),gone:=l}):=by
 simp[h0X,a0B,back,show ¬1000000000≤s.log.length by omega,show ¬1000000000≤l.length by omega]
theorem o1M {s:St} (st:c0U) (h:s.log.length<1000000000):back st s=(.ok (),{s with log:=bk s.depth s.log st}):=by
 simp[back,show ¬1000000000≤s.log.length by omega]
theorem v1N {s:St} {st:c0U} (h:(back st s).1≠ .big):s.log.length<1000000000:=by
 rcases Nat.lt_or_ge s.log.length 1000000000 with a|a
 ·exact a
 ·exact(h (by simp[back,a])).elim
theorem q1G {s:St} {k:Int} (h:(e0G k s).1≠ .big):inR k=true:=by
 cases hi:inR k with
 |true=>rfl
 |false=>exact(h (by simp[e0G,hi])).elim
theorem k2J {s:St} {k:Int} (a:(e0G k s).1≠ .big) (v:c0N s k=1):
 inR k=true∧s.log.length<1000000000∧(bk s.depth s.log (.refs k (a0C k s.refs))).length<1000000000∧
 (let c:=bk s.depth (bk s.depth s.log (.refs k (a0C k s.refs))) (.back k)
  if 0<h0Y s k then s.gone.length+1<1000000000∧c.length<1000000000∧(bk s.depth c (.young k (a0C k s.young))).length<1000000000∧
   e0G k s=(.ok true,{s with refs:=b0D k s.refs,g:=mvL s.fr s.g k 1 2,young:=b0D k s.young,gone:=s.gone++ [k],log:=bk s.depth (bk s.depth c (.young k (a0C k s.young))) (.gone s.gone)})
   else e0G k s=(.ok true,{s with refs:=b0D k s.refs,g:=mvL s.fr s.g k 1 2,log:=c})):=by
 have hi:=q1G a;have t:e0G k s=a0B (l0B k) (fun _=>a0B (fun s=>back (.back k) {s with g:=mvL s.fr s.g k 1 2}) fun _=>
  a0B (fun s=>if 0<h0Y s k then a0B (f0M k) (fun _ s=>h0X (s.gone++ [k]) s) s else ret () s) fun _=>ret true) s:=by
  simp[e0G,hi,v]
 rw[t]at a;have d:s.log.length<1000000000:=b2Z (c0I a) fun h=>by simp[l0B,a0B,back,h]
 have q:=p0H a (h1X k d);have f:=v1N (c0I q);have u:=p0H q (o1M _ f);refine⟨hi,d,f,?_⟩;simp only;rw[t,a0A (h1X k d),a0A (m:=fun s=>back (.back k) {s with g:=mvL s.fr s.g k 1 2}) (o1M (s:= {s with refs:=b0D k s.refs,g:=mvL s.fr s.g k 1 2,log:=bk s.depth s.log (.refs k (a0C k s.refs))}) (.back k) f)];have j:=c0I u;split
 ·rename_i l;have b:0<h0Y {s with refs:=b0D k s.refs,g:=mvL s.fr s.g k 1 2,log:=bk s.depth (bk s.depth s.log (.refs k (a0C k s.refs))) (.back k)} k:=l;rw[if_pos b]at j;have i:=t0W (n:=(bk s.depth (bk s.depth s.log (.refs k (a0C k s.refs))) (.back k)).length) (c0I j) fun h=>by simp[f0M,a0B,back,h]
  have r:=p0H j (f1G k i);have o:=t0W (n:=(bk s.depth (bk s.depth (bk s.depth s.log (.refs k (a0C k s.refs))) (.back k)) (.young k (a0C k s.young))).length) r fun h=>by simp only[h0X];split<;>simp[a0B,back,h]
  have p:=t0W (n:=(s.gone++ [k]).length) r fun h=>by rw[h0X,if_pos h]
  refine⟨by simpa using p,i,o,?_⟩;have e:(fun s=>if 0<h0Y s k then a0B (f0M k) (fun _ s=>h0X (s.gone++ [k]) s) s else ret () s) {s with refs:=b0D k s.refs,g:=mvL s.fr s.g k 1 2,log:=bk s.depth (bk s.depth s.log (.refs k (a0C k s.refs))) (.back k)} =
   (.ok (),{s with refs:=b0D k s.refs,g:=mvL s.fr s.g k 1 2,young:=b0D k s.young,gone:=s.gone++ [k],log:=bk s.depth (bk s.depth (bk s.depth (bk s.depth s.log (.refs k (a0C k s.refs))) (.back k)) (.young k (a0C k s.young))) (.gone s.gone)}):=by
   simp only[if_pos b];rw[a0A (f1G k i),f2N _ p o]
  rw[a0A e];rfl
 ·rename_i l;have b: ¬0<h0Y {s with refs:=b0D k s.refs,g:=mvL s.fr s.g k 1 2,log:=bk s.depth (bk s.depth s.log (.refs k (a0C k s.refs))) (.back k)} k:=l;have e:(fun s=>if 0<h0Y s k then a0B (f0M k) (fun _ s=>h0X (s.gone++ [k]) s) s else ret () s) {s with refs:=b0D k s.refs,g:=mvL s.fr s.g k 1 2,log:=bk s.depth (bk s.depth s.log (.refs k (a0C k s.refs))) (.back k)} =
   (.ok (),{s with refs:=b0D k s.refs,g:=mvL s.fr s.g k 1 2,log:=bk s.depth (bk s.depth s.log (.refs k (a0C k s.refs))) (.back k)}):=by
   simp only[if_neg b];rfl
  rw[a0A e];rfl
theorem q1H {gv:Value} {l:List Int} {gc:List (Nat×Obj)} {b cap:Nat} {cur:List Value} {k:Int} (g:n0E gv l gc) (h:inR k=true) (c:l.length+1≤cap) (d:cap≤maxLen) (e:cur.length=cap*1) (f:cur.take ((l.length+1)*1)=l.map a0H++ [.int .i64 k]):
 n0E (.slice (some ⟨b,0,none⟩) (l.length+1) cap) (l++ [k]) [(b,.cells cur.toArray 3 (0,0))]:=by
 refine⟨fun x a=> ?_,.inr ⟨b,cap,cur,by simp,by simpa using c,d,by simpa using e,by simpa [a0H] using f,rfl⟩⟩;rcases List.mem_append.1 a with a|a
 ·exact g.1 x a
 ·simp at a;subst a;exact h
theorem f2O (W:World) (a:Ad) (s:St) (at_:Int) (e:c0N s at_=0):a0G prog 206 #[ptr a.heap,.int .i64 at_] (RS W a s) (Ran fT (RS W a) (fun b=> .bool b) ((.err 6,s):Out Bool×St)):=by
 have c:(a0C at_ s.refs).getD 0=0:=e;refine en func206 ntmps206 fun R w0=> ?_;refine e0C gFd fun by_ gv gc o f d=> ?_;simp only[d0B,c0R,List.cons_append,List.nil_append];refine go 2 ?_;refine bx fun g=> ?_;refine bx fun h=> ?_;refine go 10 ?_;refine b0V (e0Q (ek:=a0H) (ev:=a0H) c0Y.o h0C (tt fun _=>trivial) trivial Zr.o rfl rfl gFd e0I) ?_;refine go 16 ?_;refine d0P rfl (by simp[c]) ?_;refine go 1 ?_;refine c0A rfl Hb.o rfl (c0M 6) gSp ?_;refine ns ?_;refine pn ?_;refine b0F (c0W f d gSp) (d0U idh (b0A.back gSp) ⟨rfl,rfl⟩)
theorem k2K (W:World) (a:Ad) (s:St) (at_:Int) (g: ¬c0N s at_=0) (h: ¬c0N s at_=1) (j:s.log.length<1000000000):
 a0G prog 206 #[ptr a.heap,.int .i64 at_] (RS W a s) (Ran fT (RS W a) (fun b=> .bool b) ((.ok false,{s with log:=bk s.depth s.log (.refs at_ (a0C at_ s.refs)),refs:=b0O at_ (j0Z (c0N s at_-1)) s.refs}):Out Bool×St)):=by
 have c: ¬(a0C at_ s.refs).getD 0=0:=g;have d: ¬(a0C at_ s.refs).getD 0=1:=h;refine en func206 ntmps206 fun R w0=> ?_;refine e0C gFd fun by_ gv gc o i f=> ?_;simp only[d0B,c0R,List.cons_append,List.nil_append];refine go 2 ?_;refine bx fun k=> ?_;refine bx fun l=> ?_;refine go 10 ?_;refine b0V (e0Q (ek:=a0H) (ev:=a0H) c0Y.o h0C (tt fun _=>trivial) trivial Zr.o rfl rfl gFd e0I) ?_;refine go 16 ?_;refine b0S rfl (by simp[c]) ?_;refine go 6 ?_;refine b0S rfl (by simp[d]) ?_;refine go 3 ?_;refine tl 11 ?_;refine go 10 ?_;refine b0V (k1O rfl rfl) ?_;refine go 1 ?_;rw[f1F];refine d0Z rfl Hb.o rfl (q0E a by_ o s.log s.depth a.refs s.refs at_ (j0Z (c0N s at_-1)) (.refs at_ (a0C at_ s.refs)) j (fun _ _ _ _=>⟨_,_,_,_,.inl rfl,rfl⟩)) gSp ?_;rintro e _;refine ns ?_;refine go 7 ?_;refine b0U (c0W (s:= {s with log:=bk s.depth s.log (.refs at_ (a0C at_ s.refs)),refs:=b0O at_ (j0Z (c0N s at_-1)) s.refs}) i f gSp) (n0M rfl idh rfl rfl gSp)
end Go.Proofs.Q

/- Part of the proof; no statement of its own. -/
import Derived.Test.YtpinhnikemamjaaGreatDoorS18
import Derived.Test.YtpinhnikemamjaaGreatDoorS19
import Derived.Test.YtpinhnikemamjaaGreatDoorS05
import Derived.Test.YtpinhnikemamjaaGreatDoorS08
import Derived.Test.YtpinhnikemamjaaGreatDoorS06
set_option linter.all false
set_option maxRecDepth 4000
set_option maxHeartbeats 4000000
attribute [local irreducible] Go.Sl.a0P Go.Sl.OW Go.Sl.CW Go.Sl.OS Go.Sl.OM Go.Sl.OMf Go.Sl.KM
namespace Go.Proofs.Q
open Go.Sl Go.Sb Tryz
section
attribute [local semireducible] Sl.a0P Sl.OW Sl.CW Sl.OS Sl.OM Sl.OMf Sl.KM
abbrev fT:TypeId:=199
def t0U (x:B×B):List Value:= [.string (bs x.1),.string (bs x.2)]
def l0N (d:Dk):Prop:=(∀x∈d.l,x.1.length=64∧x.2.length=64)∧d.l.length≤4096∧d.left<4611686018427387904
abbrev dkC (a:Ad) (d:Dk):a0E:=pts a.disk (.cells #[a.vd,.bool d.armed,.int .i64 d.left,.bool d.dead] 173 (0,0))
abbrev dkR (a:Ad) (d:Dk):a0E:=b0I 175 2 a.vd d.l.length (d.l.flatMap t0U)
abbrev stC (a:Ad) (bits:Nat):a0E:=pts a.st (.cells #[ptr a.heap,.int .i64 bits,.map (some a.ix)] 210 (0,0))
abbrev mpC (a:Ad):a0E:=pts a.maps (.cells #[ptr a.heap,ptr a.st] 194 (0,0))
abbrev HX:=Nat×Value×List (Nat×Obj)×Own
def hlV (a:Ad) (s:St) (x:HX):List a0E:=e0K a x.1 x.2.2.2 s.log s.depth::m0X (n0E x.2.1 s.gone x.2.2.1∧o0M s)::TT a x.1 x.2.1 x.2.2.1 s
def HL (a:Ad) (s:St):a0E:=ex fun x:HX=>b0E (hlV a s x)
abbrev RS (W:World) (a:Ad) (s:St):List a0E:= [whole W,dkC a s.d,dkR a s.d,m0X (l0N s.d),stC a s.bits,mpC a,HL a s]
def gd {S α:Type} :Out α×S→Out Int×S
 | (.ok _,s)=>(.ok 0,s)
 | (.err e,s)=>(.ok e,s)
 | (.big,s)=>(.big,s)
section
variable {c:Cx} {Q:Exit→Act→World→Prop} {env:List (Nat×Value)} {L M:List a0E} {y:Code} {a:Ad} {s:St}
theorem e0C (hL:Fnd L (HL a s) M) (h: ∀by_ gv gc o,n0E gv s.gone gc→o0M s→CW c y Q env (e0K a by_ o s.log s.depth::(TT a by_ gv gc s++M))):CW c y Q env L:=by
 refine v0M hL fun x=> ?_;obtain⟨by_,gv,gc,o⟩:=x;simp only[hlV,List.cons_append];refine n0N (Fnd.there Fnd.here) fun hf=> ?_;refine b0U (L':=e0K a by_ o s.log s.depth::(TT a by_ gv gc s++M)) (fun w hw=> ?_) (h by_ gv gc o hf.1 hf.2);exact(u0D.1 (hw.perm (List.Perm.swap _ _ _))).2
theorem c0W {by_:Nat} {gv:Value} {gc:List (Nat×Obj)} {o:Own} (hg:n0E gv s.gone gc) (hok:o0M s) (hL:b0A L (e0K a by_ o s.log s.depth::TT a by_ gv gc s) M) (w:World) (h:Sat w L):Sat w (HL a s::M):=by
 refine g0K.2 ⟨(by_,gv,gc,o),b0M.2 ?_⟩;have h1:=n0V (p:=n0E gv s.gone gc∧o0M s) ⟨hg,hok⟩ w (h.perm hL);exact h1.perm (List.Perm.swap _ _ _)
end
attribute [local irreducible] Sl.a0P Sl.OW Sl.CW Sl.OS Sl.OM Sl.OMf Sl.KM
theorem m1A (a:Ad) (s:St) (hd:0<s.depth):b1K prog 147 #[ptr a.log] .returning [HL a s] (fun e u' L'=> ∃_x:Unit,True∧(∃v,e= .returned v)∧settle u'= .returning∧L'= [HL a (k0T s)]):=by
 refine y1F (args:= [ptr a.log]) func147 rfl ntmps147 rfl (fun R w0=> ?_);simp only[j0X,List.cons_append,List.nil_append];refine e0C gFd fun by_ gv gc o hg hok=> ?_;refine y0I gFd fun v vals hlk hdp hv1=> ?_;refine go 21 ?_;refine a0O rfl (fun hb13=> ?_) (fun hb13=> ?_)
 ·have h1:s.depth=1:=by have:=of_decide_eq_true hb13;omega
  have h0:((s.depth:Int)-1)=((0:Nat):Int):=by omega
  refine go 6 ?_;rw[h0];refine b0F (fun w h=>f0E 1 1 w h) ?_;refine b0F (q0D (a:=a) (by_:=by_) (o:=o) (log:= []) (depth:=0) (v:= .slice none 0 0) (vals:= []) ⟨by simp,[],o,List.Perm.refl _,rfl,rfl,by simp⟩ (by omega) gSp) ?_;have hl:k0T s= {s with depth:=0,log:= []} :=by unfold k0T;rw[if_pos h1]
  refine b0F (c0W (s:=k0T s) (by_:=by_) (gv:=gv) (gc:=gc) (o:=o) (by rw[hl];exact hg) (by rw[hl];exact hok) (by rw[hl];exact gSp)) ?_;refine x0Q rfl (b0A.back gSp) ⟨(),trivial,⟨_,rfl⟩,rfl,rfl⟩
 ·have h1: ¬s.depth=1:=by have:=of_decide_eq_false hb13;omega
  have h0:((s.depth:Int)-1)=((s.depth-1:Nat):Int):=by omega
  refine go 1 ?_;rw[h0];refine b0F (q0D hlk (depth:=s.depth-1) (by omega) gSp) ?_;have hl:k0T s= {s with depth:=s.depth-1} :=by unfold k0T;rw[if_neg h1]
  refine b0F (c0W (s:=k0T s) (by_:=by_) (gv:=gv) (gc:=gc) (o:=o) (by rw[hl];exact hg) (by rw[hl];exact hok) (by rw[hl];exact gSp)) ?_;refine x0Q rfl (b0A.back gSp) ⟨(),trivial,⟨_,rfl⟩,rfl,rfl⟩
end
theorem v1I (W:World) (a:Ad) (t:St):RS W a (k0T t)= [whole W,dkC a t.d,dkR a t.d,m0X (l0N t.d),stC a t.bits,mpC a,HL a (k0T t)]:=by unfold k0T;split<;>rfl
theorem x0E (s:St): ∀l,(e0O s l).d=s.d∧(e0O s l).bits=s.bits
 | []=>⟨rfl,rfl⟩
 |st::l=>by
  have:=x0E s l;cases st<;>exact this
theorem v1J (m:Nat) (s:St):(d0M m s).d=s.d:=(x0E s _).1
theorem h1W (m:Nat) (s:St):(d0M m s).bits=s.bits:=(x0E s _).2
theorem z1D {C:Type} (W:World) (a:Ad) (RC:C→a0E) (g:FuncId) (cap:List Value) (run:Run (St×C) Unit) (s:St) (c:C) (hb:f0H prog g=true) (hnb:(o0I run (s,c)).1≠ .big)
 (hrun:(run ({s with depth:=s.depth+1},c)).1≠ .big→a0G prog g cap.toArray (RS W a {s with depth:=s.depth+1} ++ [RC c]) (Ran fT (fun x=>RS W a x.1++ [RC x.2]) (fun _=> .tuple #[]) (run ({s with depth:=s.depth+1},c)))):
 a0G prog 105 #[ptr a.log,.func (.func g) #[] cap.toArray] (RS W a s++ [RC c]) (Ran fT (fun x=>RS W a x.1++ [RC x.2]) (fun e=> .int .i64 e) (o0I run (s,c))):=by
 have hd:s.depth<1000000000:=by
  rcases Nat.lt_or_ge s.depth 1000000000 with h|h
  ·exact h
  ·exact(hnb (by simp[o0I,h])).elim
 have hd': ¬1000000000≤s.depth:=by omega
 cases ho:run ({s with depth:=s.depth+1},c)with
 |mk x y=>
 obtain⟨t,c'⟩:=y;rw[ho]at hrun;cases x with
 |big=>exact(hnb (by simp[o0I,hd',ho])).elim
 |ok x=>
  have ht:t.depth≠0:=fun h=>hnb (by simp[o0I,hd',ho,h]);have htr:o0I run (s,c)=(.ok 0,(k0T t,c')):=by simp[o0I,hd',ho,ht]
  have hg:=u1Z g cap _ _ _ hb (hrun (by simp)).ran_ok;refine z0P (args:= [_,_]) func105 rfl ntmps105 rfl (fun R w0=> ?_);simp only[j0X,List.cons_append,List.nil_append];refine e0C gFd fun by_ gv gc o hgo hok=> ?_;refine y0I gFd fun v vals hlk hdp hv1=> ?_;have hlen:=hlk.len;refine go 11 ?_;refine a0D (i0N Tsl.o rfl gFd) ?_;refine go 14 ?_;rw[show((s.depth:Nat):Int)+1=((s.depth+1:Nat):Int)from rfl];refine b0F (q0D hlk (depth:=s.depth+1) (by omega) gSp) ?_;refine b0F (c0W (s:= {s with depth:=s.depth+1}) hgo hok gSp) ?_;refine go 4 ?_;refine i1O (f:=147) (first:= []) (cap:= []) rfl rfl ?_;refine cg 5 (hg) ?_;refine go 19 ?_;refine s0A (l1A (cap:= []) (args:= [ptr a.log]) (.inr rfl) idh rfl Hb.o (m1A a t (Nat.pos_of_ne_zero ht)) gSp (fun _ _=>⟨RS W a (k0T t)++ [RC c'],_,by rw[v1I];(try rw[v1J,h1W]);simp only[List.cons_append,List.nil_append];exact gSp,by rw[htr];exact⟨rfl,rfl⟩⟩))
 |err e=>
  have ht: ¬(t.depth=0∨e=0):=fun h=>hnb (by simp[o0I,hd',ho,h]);have htr:o0I run (s,c)=(.ok e,(k0T (d0M s.log.length t),c')):=by simp[o0I,hd',ho,ht]
  have hg:=k2D g cap _ (RS W a t++ [RC c']) e hb (hrun (by simp));have hdu:(d0M s.log.length t).depth=t.depth:=(f1C t _).2;refine z0P (args:= [_,_]) func105 rfl ntmps105 rfl (fun R w0=> ?_);simp only[j0X,List.cons_append,List.nil_append];refine e0C gFd fun by_ gv gc o hgo hok=> ?_;refine y0I gFd fun v vals hlk hdp hv1=> ?_;have hlen:=hlk.len;refine go 11 ?_;refine a0D (i0N Tsl.o rfl gFd) ?_;refine go 14 ?_;rw[show((s.depth:Nat):Int)+1=((s.depth+1:Nat):Int)from rfl];refine b0F (q0D hlk (depth:=s.depth+1) (by omega) gSp) ?_;refine b0F (c0W (s:= {s with depth:=s.depth+1}) hgo hok gSp) ?_;refine go 4 ?_;refine i1O (f:=147) (first:= []) (cap:= []) rfl rfl ?_;refine cg 5 (hg) ?_;refine go 10 ?_;refine d0P rfl (by simp;exact fun h=>ht (.inr h)) ?_;rw[←hlen];refine e0C gFd fun by2 gv2 gc2 o2 hgo2 hok2=> ?_;refine ce 3 (u2V a by2 gv2 gc2 o2 t s.log.length hgo2 hok2) ?_;rintro⟨gv3,gc3,o3⟩ hx;refine ns ?_;refine go 1 ?_;refine b0F (c0W (s:=d0M s.log.length t) hx.1 hx.2 gSp) ?_;refine go 7 ?_;refine s0A (l1A (cap:= []) (args:= [ptr a.log]) (.inr rfl) idh rfl Hb.o (m1A a (d0M s.log.length t) (by rw[hdu];omega)) gSp (fun _ _=>⟨RS W a (k0T (d0M s.log.length t))++ [RC c'],_,by rw[v1I];(try rw[v1J,h1W]);simp only[List.cons_append,List.nil_append];exact gSp,by rw[htr];exact⟨rfl,rfl⟩⟩))
abbrev dk3 (a:Ad) (d:Dk):List a0E:= [dkC a d,dkR a d,m0X (l0N d)]
def i0S (_:Unit):Value:= .tuple #[]
theorem p0P (a:Ad) (d:Dk) (h:d.dead=false):a0G prog 225 #[ptr a.disk] [dkC a d] (a0T (.tuple #[]) [dkC a d]):=by
 refine en func225 ntmps225 fun R w0=> ?_;refine go 8 ?_;refine b0S rfl h ?_;refine go 1 ?_;refine d0Q rfl rfl gSp
theorem j1S (a:Ad) (d:Dk) (h:d.dead=true):a0G prog 225 #[ptr a.disk] [dkC a d] (fun en L=>en= .panicked (t0H fT 12)∧L= [dkC a d]):=by
 refine en func225 ntmps225 fun R w0=> ?_;refine go 8 ?_;refine d0P rfl h ?_;refine go 1 ?_;refine c0A rfl Hb.o rfl (c0M 12) gSp ?_;refine ns ?_;refine pn ?_;refine d0U idh (b0A.back gSp) ⟨rfl,rfl⟩
theorem c1Q (a:Ad) (d:Dk) (at_:Int) (h: ¬(at_<0∨(d.l.length:Int)≤at_)):a0G prog 226 #[ptr a.disk,.int .i64 at_] [dkC a d,dkR a d] (a0T (.tuple #[]) [dkC a d,dkR a d]):=by
 refine en func226 ntmps226 fun R w0=> ?_;refine n0W gFd fun p cap hv hcap hl=> ?_;refine go 10 ?_;refine b0Z (i0N Tsl.o rfl gFd) (wg rfl rfl rfl (wFF gF)) ?_;refine go 6 ?_;refine d0Q rfl rfl gSp
theorem v1K (a:Ad) (d:Dk) (at_:Int) (h:at_<0∨(d.l.length:Int)≤at_):a0G prog 226 #[ptr a.disk,.int .i64 at_] [dkC a d,dkR a d] (fun en L=>en= .panicked (t0H fT 6)∧L= [dkC a d,dkR a d]):=by
 by_cases h0:at_<0
 ·refine en func226 ntmps226 fun R w0=> ?_;refine go 17 ?_;refine c0A rfl Hb.o rfl (c0M 6) gSp ?_;refine ns ?_;refine pn ?_;refine d0U idh (b0A.back gSp) ⟨rfl,rfl⟩
 ·refine en func226 ntmps226 fun R w0=> ?_;refine go 10 ?_;refine b0Z (i0N Tsl.o rfl gFd) (wg rfl rfl rfl (wFF gF)) ?_;refine go 6 ?_;refine c0A rfl Hb.o rfl (c0M 6) gSp ?_;refine ns ?_;refine pn ?_;refine d0U idh (b0A.back gSp) ⟨rfl,rfl⟩
theorem f2I (a:Ad) (d:Dk) (hl:d.left<4611686018427387904):a0G prog 285 #[ptr a.disk] [dkC a d] (Ran fT (fun d=> [dkC a d]) i0S (k0W d)):=by
 by_cases h1:d.dead=true
 ·have e:k0W d=(.err 12,d):=by simp[k0W,h1]
  rw[e];refine en func285 ntmps285 fun R w0=> ?_;refine go 3 ?_;refine c0A rfl Hb.o rfl (j1S a d h1) gSp ?_;refine ns ?_;refine pn ?_;refine d0U idh (b0A.back gSp) ⟨rfl,rfl⟩
 ·have h1':d.dead=false:=by simpa using h1
  by_cases h2:d.armed=false
  ·have e:k0W d=(.ok (),d):=by simp[k0W,h1',h2]
   rw[e];refine en func285 ntmps285 fun R w0=> ?_;refine cg 3 (p0P a d h1') ?_;refine go 12 ?_;refine d0P rfl (by rw[h2];rfl) ?_;exact rR idh rfl
  ·have h2':d.armed=true:=by simpa using h2
   cases h3:d.left with
   |zero=>
    have e:k0W d=(.err 12,{d with dead:=true}):=by simp[k0W,h1',h2',h3]
    rw[e];refine en func285 ntmps285 fun R w0=> ?_;refine cg 3 (p0P a d h1') ?_;refine go 12 ?_;refine b0S rfl (by rw[h2'];rfl) ?_;refine go 12 ?_;refine d0P rfl (by rw[h3];rfl) ?_;refine go 9 ?_;refine c0A rfl Hb.o rfl (c0M 12) gSp ?_;refine ns ?_;refine pn ?_;refine d0U idh (b0A.back gSp) ⟨rfl,rfl⟩
   |succ n=>
    have e:k0W d=(.ok (),{d with left:=n}):=by simp[k0W,h1',h2',h3]
    rw[e];refine en func285 ntmps285 fun R w0=> ?_;refine cg 3 (p0P a d h1') ?_;refine go 12 ?_;refine b0S rfl (by rw[h2'];rfl) ?_;refine go 12 ?_;refine b0S rfl (by rw[h3];exact decide_eq_false (by omega)) ?_;refine go 12 ?_;rw[show((d.left:Nat):Int)-1=((n:Nat):Int) by omega];exact fR rfl
abbrev b0C (s:B):Value:= .string (bs s)
theorem k2G {l:List (B×B)} {i:Nat} {x:B×B} (h:l[i]? =some x):nth (l.flatMap t0U) (2*i)=some (b0C x.1)∧nth (l.flatMap t0U) (2*i+1)=some (b0C x.2):=by
 induction l generalizing i with
 |nil=>simp at h
 |cons y l ih=>
  cases i with
  |zero=>simp at h;subst h;exact⟨rfl,rfl⟩
  |succ i=>
   have:=ih (i:=i) (by simpa using h);simp only[List.flatMap_cons];exact this
theorem u0L (l:List (B×B)):(l.flatMap t0U).length=l.length*2:=by
 induction l with
 |nil=>rfl
 |cons x l ih=>simp only[List.flatMap_cons,List.length_append,ih,List.length_cons,t0U];simp;omega
theorem u2W (l:List (B×B)) (i:Nat) (x:B×B) (v:B) (h:l[i]? =some x):(l.flatMap t0U).set (2*i+1) (b0C v)=(l.set i (x.1,v)).flatMap t0U:=by
 induction l generalizing i with
 |nil=>simp at h
 |cons y l ih=>
  cases i with
  |zero=>simp at h;subst h;rfl
  |succ i=>
   have:=ih i (by simpa using h);simp only[List.flatMap_cons,List.set_cons_succ];show _=t0U y++_;rw[←this];rfl
theorem f2J {d:Dk} {at_:Int} (h: ¬(at_<0∨(d.l.length:Int)≤at_)):d.l[at_.toNat]? =some (d.l.getD at_.toNat ([],[])):=by
 have:at_.toNat<d.l.length:=by omega
 simp[List.getD_eq_getElem?_getD,List.getElem?_eq_getElem this]
theorem f2K (a:Ad) (d:Dk) (at_:Int):a0G prog 187 #[ptr a.disk,.int .i64 at_] [dkC a d,dkR a d] (Ran fT (fun _=> [dkC a d,dkR a d]) b0C (n0U d at_,d)):=by
 by_cases h1:d.dead=true
 ·have e:n0U d at_= .err 12:=by simp[n0U,h1]
  rw[e];refine en func187 ntmps187 fun R w0=> ?_;refine go 8 ?_;refine c0A rfl Hb.o rfl (j1S a d h1) gSp ?_;refine ns ?_;refine pn ?_;refine d0U idh (b0A.back gSp) ⟨rfl,rfl⟩
 ·have h1':d.dead=false:=by simpa using h1
  by_cases h2:at_<0∨(d.l.length:Int)≤at_
  ·have e:n0U d at_= .err 6:=by simp[n0U,h1',h2]
   rw[e];refine en func187 ntmps187 fun R w0=> ?_;refine cg 8 (p0P a d h1') ?_;refine go 6 ?_;refine c0A rfl Hb.o rfl (v1K a d at_ h2) gSp ?_;refine ns ?_;refine pn ?_;refine d0U idh (b0A.back gSp) ⟨rfl,rfl⟩
  ·have e:n0U d at_= .ok (d.l.getD at_.toNat ([],[])).2:=by simp[n0U,h1',h2]
   have hat:=k2G (f2J h2);rw[e];refine en func187 ntmps187 fun R w0=> ?_;refine n0W gFd fun p cap hv hcap hl=> ?_;refine cg 8 (p0P a d h1') ?_;refine cg 6 (c1Q a d at_ h2) ?_;refine go 3 ?_;refine i0T gFd (by omega) fun b cap hv' hcap=> ?_;simp only[dkC,dkR];rw[hv'];refine go 8 ?_;refine a0D (a0X Sc.o rfl gFd (by rw[show 0+at_.toNat*2+1=2*at_.toNat+1 by omega];exact hat.2)) ?_;refine go 3 ?_;rw[←hv'];exact rR idh rfl
def stl (x:Nat):Nat:=if x=2 then 0 else x
def j0G (l:List Nat) (i:Nat):List Nat:=(l.take i).map stl++l.drop i
theorem y0K (l:List Nat) (i:Nat) (h:i≤l.length):(j0G l i).length=l.length:=by simp[j0G];omega
theorem f1D (l:List Nat) (i:Nat) (h:i<l.length):(j0G l i)[i]? =some l[i]:=by
 unfold j0G;rw[List.getElem?_append_right (by simp;omega)];simp[Nat.min_eq_left (Nat.le_of_lt h),List.getElem?_eq_getElem h]
theorem d1S (l:List Nat) (i:Nat) (h:i<l.length):(j0G l i).set i (stl l[i])=j0G l (i+1):=by
 unfold j0G;rw[List.set_append_right _ _ (by simp;omega)];have h1:i- ((l.take i).map stl).length=0:=by simp;omega
 rw[h1,List.drop_eq_getElem_cons h,List.set_cons_zero];simp only[List.take_succ,List.getElem?_eq_getElem h,Option.toList_some,List.map_append,List.map_cons,List.map_nil,List.append_assoc,List.cons_append,List.nil_append]
theorem r1T (l:List Nat) (i:Nat) (h:i<l.length) (h2: ¬l[i]=2):j0G l i=j0G l (i+1):=by
 rw[←d1S l i h,show stl l[i]=l[i] by simp[stl,h2]];apply List.ext_getElem?;intro k;rw[List.getElem?_set];split
 ·rename_i hk;subst hk;rw[f1D l _ h];simp[y0K l _ (Nat.le_of_lt h),h]
 ·rfl
abbrev gmN (b bl fr n:Nat) (l:List Nat):List a0E:= [pts b (.cells #[.int .i64 fr,.slice (some ⟨bl,0,none⟩) n n,.int .i64 (l.count 0),.int .i64 (l.count 1),.int .i64 (l.count 2)] 192 (0,0)),pts bl (.cells (l.map gst).toArray 3 (0,0))]
theorem gm_N {b bl fr:Nat} {l:List Nat} {n:Nat} (h:l.length=n):gm b bl fr l=gmN b bl fr n l:=by subst h;rfl
theorem v1L (b bl fr:Nat) (l:List Nat) (hfr:fr≤5000) (hl:l.length≤5000) (h3: ∀x∈l,x<3):
 a0G prog 104 #[.pointer (some ⟨b,0,none⟩)] (gm b bl fr l) (a0T (.tuple #[]) (gm b bl fr (g0B l))):=by
 refine en func104 ntmps104 fun R w0=> ?_
 try simp only[gm,l0V]
 refine go 11 ?_;refine k1U (L':=gmN b bl fr l.length (j0G l 0)++ [R]) (by simp[j0G,gmN]) ?_;simp only[gmN,List.cons_append,List.nil_append];refine a0V (X:= {i:Nat // i≤l.length}) (fun x=> [(0,.pointer (some ⟨b,0,none⟩)),(7,.slice (some ⟨bl,0,none⟩) l.length l.length),(8,.int .i64 l.length),(9,.int .i64 x.1)]) (fun x=>gmN b bl fr l.length (j0G l x.1)++ [R]) (fun x=>l.length-x.1) ⟨0,by omega⟩ gSu gSp ?_;rintro⟨i,hi⟩ m0 hm0
 try simp only at hm0
 try dsimp only
 have hsl:=y0K l i hi;simp only[gmN,List.cons_append,List.nil_append];refine go 6 ?_;refine a0O rfl (fun hb10=> ?_) (fun hb10=> ?_)
 ·have hil:i<l.length:=by have:=of_decide_eq_true hb10;omega
  have g0X:=f1D l i hil;have hlt:=h3 _ (List.getElem_mem hil);refine go 8 ?_;refine a0D (b0N Sc.o rfl (l1W g0X (by omega))) ?_;refine go 10 ?_;refine a0O rfl (fun hb15=> ?_) (fun hb15=> ?_)
  ·have h2:l[i]=2:=by have:=of_decide_eq_true hb15;omega
   have hset:=e1V b bl fr i l[i] 0 (j0G l i) _ rfl g0X hlt (by omega) hfr (by omega);have hs2:=d1S l i hil;rw[show stl l[i]=0 by simp[stl,h2]]at hs2;rw[hs2,gm_N hsl,gm_N (y0K l (i+1) hil)]at hset;refine cg 8 (hset) ?_;refine go 6 ?_;exact rd idh (⟨i+1,hil⟩)
  ·have h2: ¬l[i]=2:=by have:=of_decide_eq_false hb15;omega
   have hsm:=r1T l i hil h2;rw[hsm];refine go 6 ?_;exact rd idh (⟨i+1,hil⟩)
 ·have hil:i=l.length:=by have:=of_decide_eq_false hb10;omega
  subst hil;have he:j0G l l.length=g0B l:=by simp[j0G,g0B];intro x _;rfl
  rw[he];have hse:(g0B l).length=l.length:=by simp[g0B]
  refine go 1 ?_;rw[hse];refine d0Q rfl rfl gSp
theorem d0B {a:Ad} {by_:Nat} {gv:Value} {gc:List (Nat×Obj)} {s:St} :TT a by_ gv gc s= [i0R a by_ gv s.keep,b0E (i0G gc),b0K by_ a0H a0H s.young,b0K a.refs a0H a0H s.refs,b0K a.ix d0X a0H s.index,b0K a.vols e0J e0E s.vols,s0F a s.next s.epoch,
 pts a.gr (.cells (l0V s.fr a.grl s.g).toArray 192 (0,0)),pts a.grl (.cells (s.g.map gst).toArray 3 (0,0))]:=rfl
theorem f2L (a:Ad) (s:St):a0G prog 17 #[ptr a.heap] [HL a s] (a0T (.int .i64 (a0Y s)) [HL a s]):=by
 refine en func17 ntmps17 fun R w0=> ?_;refine e0C gFd fun by_ gv gc o hg hok=> ?_;simp only[d0B,c0R,List.cons_append,List.nil_append];refine cg 11 (w0R a.gr a.grl s.fr s.g) ?_;refine go 3 ?_;refine b0U (c0W hg hok gSp) (g1H idh rfl rfl gSp)
theorem c1R (a:Ad) (s:St):a0G prog 20 #[ptr a.heap] [HL a s] (a0T (.int .i64 (d2R s)) [HL a s]):=by
 refine en func20 ntmps20 fun R w0=> ?_;refine e0C gFd fun by_ gv gc o hg hok=> ?_;simp only[d0B,c0R,List.cons_append,List.nil_append];refine cg 11 (f2A a.gr a.grl s.fr s.g) ?_;refine go 3 ?_;refine b0U (c0W hg hok gSp) (g1H idh rfl rfl gSp)
theorem q1F (a:Ad) (s:St):a0G prog 106 #[ptr a.log] [HL a s] (a0T (.int .i64 s.depth) [HL a s]):=by
 refine en func106 ntmps106 fun R w0=> ?_;refine e0C gFd fun by_ gv gc o hg hok=> ?_;refine y0I gFd fun v vals hlk hdp hv1=> ?_;refine go 14 ?_;refine b0U (q0D hlk hdp gSp) (b0U (c0W hg hok gSp) (g1H idh rfl rfl gSp))
theorem f1E (W:World) (a:Ad) (s:St) (at_:Int):a0G prog 152 #[ptr a.heap,.int .i64 at_] (RS W a s) (Ran fT (RS W a) b0C (g0X at_ s)):=by
 by_cases h0:c0N s at_=0
 ·have e:g0X at_ s=(.err 6,s):=by simp[g0X,h0]
  rw[e];have h0':(a0C at_ s.refs).getD 0=0:=h0;refine en func152 ntmps152 fun R w0=> ?_;refine e0C gFd fun by_ gv gc o hg hok=> ?_;simp only[d0B,c0R,List.cons_append,List.nil_append];refine go 13 ?_;refine a0D (e0Q (ek:=a0H) (ev:=a0H) c0Y.o h0C (tt fun _=>trivial) trivial Zr.o rfl rfl gFd e0I) ?_;refine go 3 ?_;refine d0P rfl (decide_eq_true h0') ?_;refine go 1 ?_;refine c0A rfl Hb.o rfl (c0M 6) gSp ?_;refine ns ?_;refine pn ?_;refine b0F (c0W hg hok gSp) (d0U idh (b0A.back gSp) ⟨rfl,rfl⟩)
 ·have e:g0X at_ s=(n0U s.d at_,s):=by simp[g0X,h0]
  have h0': ¬(a0C at_ s.refs).getD 0=0:=h0;rw[e];have hr:=f2K a s.d at_;cases hd:n0U s.d at_ with
  |big=>simp[n0U]at hd;split at hd<;>(try split at hd)<;>cases hd
  |ok b=>
   rw[hd]at hr;refine en func152 ntmps152 fun R w0=> ?_;refine e0C gFd fun by_ gv gc o hg hok=> ?_;simp only[d0B,c0R,List.cons_append,List.nil_append];refine go 13 ?_;refine a0D (e0Q (ek:=a0H) (ev:=a0H) c0Y.o h0C (tt fun _=>trivial) trivial Zr.o rfl rfl gFd e0I) ?_;refine go 3 ?_;refine b0S rfl (decide_eq_false h0') ?_;refine cg 9 (hr.ran_ok) ?_;refine go 3 ?_;refine b0U (c0W hg hok gSp) (n0M rfl idh rfl rfl gSp)
  |err e'=>
   rw[hd]at hr;refine en func152 ntmps152 fun R w0=> ?_;refine e0C gFd fun by_ gv gc o hg hok=> ?_;simp only[d0B,c0R,List.cons_append,List.nil_append];refine go 13 ?_;refine a0D (e0Q (ek:=a0H) (ev:=a0H) c0Y.o h0C (tt fun _=>trivial) trivial Zr.o rfl rfl gFd e0I) ?_;refine go 3 ?_;refine b0S rfl (decide_eq_false h0') ?_;refine go 9 ?_;refine c0A rfl Hb.o rfl (hr) gSp ?_;refine ns ?_;refine pn ?_;refine b0F (c0W hg hok gSp) (d0U idh (b0A.back gSp) ⟨rfl,rfl⟩)
theorem k2H {s:St} (hok:o0M s):o0M {s with g:=g0B s.g,young:= []} :=⟨hok.1,by simpa [g0B] using hok.2.1,fun x hx=>by
 obtain⟨y,hy,rfl⟩:=List.mem_map.1 hx;have:=hok.2.2.1 y hy;split<;>omega,hok.2.2.2⟩
theorem v1M (a:Ad) (s:St) (h0:s.depth=0∧s.log= []):a0G prog 48 #[ptr a.heap] [HL a s] (a0T (.tuple #[]) [HL a {s with g:=g0B s.g,young:= []}]):=by
 refine en func48 ntmps48 fun R w0=> ?_;refine e0C gFd fun by_ gv gc o hg hok=> ?_;refine y0I gFd fun v vals hlk hdp hv1=> ?_;simp only[d0B,c0R,List.cons_append,List.nil_append];have hv0:vals= []:=by have:=hlk.len;rw[h0.2]at this;exact List.eq_nil_of_length_eq_zero this.symm
 subst hv0;refine cg 6 (v1L a.gr a.grl s.fr s.g hok.1 hok.2.1 hok.2.2.1) ?_;refine go 2 ?_;skip;refine go 2 ?_;refine(r0G (fun b8=> ?_));refine go 4 ?_;refine b0F (q0D (a:=a) (by_:=b8) (o:=o) (log:=s.log) (depth:=s.depth) (v:=v) (vals:= []) (by rw[h0.2];exact⟨by simp,[],o,List.Perm.refl _,rfl,rfl,by simp⟩) hdp gSp) ?_;refine b0F (fun w h=>x0R a0H a0H ((show Fnd _ (pts b8 _) _ from gFd).sat h)) ?_;refine b0F (c0W (s:= {s with g:=g0B s.g,young:= []}) (by_:=b8) hg (k2H hok) gSp) ?_;refine d0Q rfl rfl gSp
theorem f1F (x:Int):IntKind.i64.wrap x=j0Z x:=by rw[IntKind.wrap_i64];rfl
theorem a1A {s:St} {k v:Int} (h:(h0I k v s).1≠ .big):s.log.length<1000000000:=by
 rcases Nat.lt_or_ge s.log.length 1000000000 with h'|h'
 ·exact h'
 ·exact(h (by simp[h0I,a0B,back,h'])).elim
theorem w0S {s:St} (k v:Int) (h:s.log.length<1000000000):h0I k v s=(.ok (),{s with log:=bk s.depth s.log (.refs k (a0C k s.refs)),refs:=b0O k v s.refs}):=by
 simp[h0I,a0B,back,show ¬1000000000≤s.log.length by omega]
theorem z1E {s:St} (k v:Int) (h:s.log.length<1000000000):m0E k v s=(.ok (),{s with log:=bk s.depth s.log (.young k (a0C k s.young)),young:=b0O k v s.young}):=by
 simp[m0E,a0B,back,show ¬1000000000≤s.log.length by omega]
theorem f2M {s:St} (v:Int) (h:s.log.length<1000000000):x0A v s=(.ok (),{s with log:=bk s.depth s.log (.keep s.keep),keep:=v}):=by
 simp[x0A,a0B,back,show ¬1000000000≤s.log.length by omega]
theorem b2Z {s:St} {α:Type} {o:Out α×St} (h:o.1≠ .big) (hb:1000000000≤s.log.length→o.1= .big):s.log.length<1000000000:=by
 rcases Nat.lt_or_ge s.log.length 1000000000 with h'|h'
 ·exact h'
 ·exact(h (hb h')).elim
theorem c1S (W:World) (a:Ad) (s:St) (at_:Int) (hnb:(k0S at_ s).1≠ .big):a0G prog 201 #[ptr a.heap,.int .i64 at_] (RS W a s) (Ran fT (RS W a) i0S (k0S at_ s)):=by
 by_cases h0:c0N s at_=0
 ·have e:k0S at_ s=(.err 6,s):=by simp[k0S,h0]
  rw[e];have h0':(a0C at_ s.refs).getD 0=0:=h0;refine en func201 ntmps201 fun R w0=> ?_;refine e0C gFd fun by_ gv gc o hg hok=> ?_;simp only[d0B,c0R,List.cons_append,List.nil_append];refine go 8 ?_;refine a0D (e0Q (ek:=a0H) (ev:=a0H) c0Y.o h0C (tt fun _=>trivial) trivial Zr.o rfl rfl gFd e0I) ?_;refine go 3 ?_;refine d0P rfl (decide_eq_true h0') ?_;refine go 1 ?_;refine c0A rfl Hb.o rfl (c0M 6) gSp ?_;refine ns ?_;refine pn ?_;refine b0F (c0W hg hok gSp) (d0U idh (b0A.back gSp) ⟨rfl,rfl⟩)
 ·have e1:k0S at_ s=h0I at_ (j0Z (c0N s at_+1)) s:=by simp[k0S,h0]
  rw[e1]at hnb;have hn:=a1A hnb;rw[w0S _ _ hn]at e1;rw[e1];have h0': ¬(a0C at_ s.refs).getD 0=0:=h0;refine en func201 ntmps201 fun R w0=> ?_;refine e0C gFd fun by_ gv gc o hg hok=> ?_;simp only[d0B,c0R,List.cons_append,List.nil_append];refine go 8 ?_;refine a0D (e0Q (ek:=a0H) (ev:=a0H) c0Y.o h0C (tt fun _=>trivial) trivial Zr.o rfl rfl gFd e0I) ?_;refine go 3 ?_;refine b0S rfl (decide_eq_false h0') ?_;refine go 2 ?_;refine tl 16 ?_;refine go 14 ?_;refine b0V (e0Q (ek:=a0H) (ev:=a0H) c0Y.o h0C (tt fun _=>trivial) trivial Zr.o rfl rfl gFd e0I) ?_;refine b0V (g1D rfl rfl) ?_;refine go 1 ?_;rw[f1F];refine d0Z rfl Hb.o rfl (q0E a by_ o s.log s.depth a.refs s.refs at_ (j0Z (c0N s at_+1)) (.refs at_ (a0C at_ s.refs)) hn (fun _ _ _ _=>⟨_,_,_,_,.inl rfl,rfl⟩)) gSp ?_;rintro e _;refine ns ?_;refine go 1 ?_;refine b0F (c0W (s:= {s with log:=bk s.depth s.log (.refs at_ (a0C at_ s.refs)),refs:=b0O at_ (j0Z (c0N s at_+1)) s.refs}) hg hok gSp) (x0B rfl rfl rfl gSp)
theorem m1B (W:World) (a:Ad) (s:St) (n:Int) (hnb:(o0R n s).1≠ .big):a0G prog 117 #[ptr a.heap,.int .i64 n] (RS W a s) (Ran fT (RS W a) i0S (o0R n s)):=by
 have hn:s.log.length<1000000000:=b2Z hnb fun h=>by simp[o0R,x0A,a0B,back,h]
 rw[show o0R n s=_ from f2M (max n 0) hn];refine en func117 ntmps117 fun R w0=> ?_;refine e0C gFd fun by_ gv gc o hg hok=> ?_;simp only[d0B,c0R,List.cons_append,List.nil_append];refine tl 9 ?_;refine ce 10 (y1Y a by_ o s.log s.depth gv s.keep (max n 0) hn) ?_;rintro e _;refine ns ?_;refine go 1 ?_;refine b0F (c0W (s:= {s with log:=bk s.depth s.log (.keep s.keep),keep:=max n 0}) hg hok gSp) (x0B rfl rfl rfl gSp)
def g1X (fr:Nat) (g:List Nat) (x:Int):List Nat:=mvL fr (mvL fr g x 2 1) x 1 0
def gAt (s:St) (i:Nat):List Nat:=(s.gone.take i).foldl (g1X s.fr) s.g
theorem p2M (s:St) (i:Nat) (h:i<s.gone.length):gAt s (i+1)=g1X s.fr (gAt s i) s.gone[i]:=by
 unfold gAt;rw[List.take_succ,List.getElem?_eq_getElem h,List.foldl_append];rfl
theorem k2I (s:St) (hok:o0M s) (i:Nat):(gAt s i).length=s.g.length∧ ∀x∈gAt s i,x<3:=by
 unfold gAt;generalize s.gone.take i=l;have key: ∀(l:List Int) (g:List Nat),(∀x∈g,x<3)→(l.foldl (g1X s.fr) g).length=g.length∧ ∀x∈l.foldl (g1X s.fr) g,x<3:=by
  intro l
  induction l with
  |nil=>intro g h;exact⟨rfl,h⟩
  |cons y l ih=>
   intro g h;have:=ih (g1X s.fr g y) (u0P (by omega) (u0P (by omega) h));exact⟨by rw[List.foldl_cons,this.1];simp[g1X,u0O],this.2⟩
 exact key l s.g hok.2.2.1
theorem z1F (s:St):u0F s= {s with g:=gAt s s.gone.length,gone:= []} :=by simp[u0F,gAt];rfl
theorem c0C {w:World} {M:List a0E} (h:Sat w M):Sat w (b0E []::M):=b0M.2 h
theorem u2X {cur:List Value} {l:List Int} (h:cur.take l.length=l.map a0H) {i k:Nat} (hi:i<l.length) (hk:k=i):nth cur k=some (.int .i64 l[i]):=by
 subst hk;rw[e0F];have:(cur.take l.length)[k]? =some (a0H l[k]):=by rw[h];simp[hi]
 rw[List.getElem?_take_of_lt hi]at this;exact this
theorem o1L (a:Ad) (s:St):a0G prog 107 #[ptr a.heap] [HL a s] (a0T (.tuple #[]) [HL a (u0F s)]):=by
 rw[z1F];refine en func107 ntmps107 fun R w0=> ?_;refine e0C gFd fun by_ gv gc o hg hok=> ?_;simp only[d0B,c0R,List.cons_append,List.nil_append];obtain⟨hgr,⟨hg0,rfl,rfl⟩| ⟨g,cap,cur,rfl,hcap,hmx,hcl,htk,rfl⟩⟩:=hg
 ·refine go 12 ?_;refine a0V (X:=Unit) (fun _=> [(0,ptr a.heap),(7,.slice none 0 0),(8,.int .i64 0),(9,.int .i64 0)]) (fun _=> [i0R a by_ (.slice none 0 0) s.keep,e0K a by_ o s.log s.depth,b0E (i0G []),b0K by_ a0H a0H s.young,b0K a.refs a0H a0H s.refs,b0K a.ix d0X a0H s.index,b0K a.vols e0J e0E s.vols,s0F a s.next s.epoch,pts a.gr (.cells (l0V s.fr a.grl s.g).toArray 192 (0,0)),pts a.grl (.cells (s.g.map gst).toArray 3 (0,0)),R]) (fun _=>0) () gSu gSp ?_;rintro x m0 hm0
  try simp only at hm0
  try dsimp only
  skip;refine go 15 ?_;rw[show gAt s s.gone.length=s.g by simp[gAt,hg0]];refine b0F (c0W (s:= {s with g:=s.g,gone:= []}) (gv:= .slice none 0 0) (gc:= []) ⟨by simp,.inl ⟨rfl,rfl,rfl⟩⟩ hok gSp) (d0Q rfl rfl gSp)
 ·try simp only[i0G,List.map_cons,List.map_nil]
  refine b0U (L':=pts g (.cells cur.toArray 3 (0,0)):: [i0R a by_ (.slice (some ⟨g,0,none⟩) s.gone.length cap) s.keep,e0K a by_ o s.log s.depth,b0K by_ a0H a0H s.young,b0K a.refs a0H a0H s.refs,b0K a.ix d0X a0H s.index,b0K a.vols e0J e0E s.vols,s0F a s.next s.epoch,pts a.gr (.cells (l0V s.fr a.grl (gAt s 0)).toArray 192 (0,0)),pts a.grl (.cells ((gAt s 0).map gst).toArray 3 (0,0)),R]) (fun w h=> ?_) ?_
  ·have h1:=b0M.1 ((show Fnd _ (b0E _) _ from gFd).sat h);exact h1.re gSp
  have hgl:=fun i=>(k2I s hok i).1;have hm2:s.gone.length≤9223372036854775807:=by simp only[maxLen]at hmx;omega
  try simp only[c0R]
  refine go 12 ?_;refine a0V (X:= {i:Nat // i≤s.gone.length}) (fun x=> [(0,ptr a.heap),(7,.slice (some ⟨g,0,none⟩) s.gone.length cap),(8,.int .i64 s.gone.length),(9,.int .i64 x.1)]) (fun x=> [pts g (.cells cur.toArray 3 (0,0)),i0R a by_ (.slice (some ⟨g,0,none⟩) s.gone.length cap) s.keep,e0K a by_ o s.log s.depth,b0K by_ a0H a0H s.young,b0K a.refs a0H a0H s.refs,b0K a.ix d0X a0H s.index,b0K a.vols e0J e0E s.vols,s0F a s.next s.epoch]++gm a.gr a.grl s.fr (gAt s x.1)++ [R]) (fun x=>s.gone.length-x.1) ⟨0,by omega⟩ gSu gSp ?_;rintro⟨i,hi⟩ m0 hm0
  try simp only at hm0
  try dsimp only
  simp only[c0R,List.cons_append,List.nil_append];refine go 6 ?_;refine a0O rfl (fun hb10=> ?_) (fun hb10=> ?_)
  ·have hil:i<s.gone.length:=by have:=of_decide_eq_true hb10;omega
   have hlt:(gAt s i).length≤5000:=by rw[hgl];exact hok.2.1
   refine go 7 ?_;refine a0D (b0N Sc.o rfl (u2X htk hil (by omega))) ?_;refine go 10 ?_;refine b0X rfl Hb.o rfl (l1Z a.gr a.grl s.fr (gAt s i) s.gone[i] (t0T (hgr _ (List.getElem_mem hil))) hok.1 hlt) gSp ?_;refine ns ?_;refine go 8 ?_;refine b0X rfl Hb.o rfl (l1Y a.gr a.grl s.fr (mvL s.fr (gAt s i) s.gone[i] 2 1) s.gone[i] (t0T (hgr _ (List.getElem_mem hil))) hok.1 (by rw[u0O];exact hlt)) gSp ?_;refine ns ?_;refine go 1 ?_;rw[show mvL s.fr (mvL s.fr (gAt s i) s.gone[i] 2 1) s.gone[i] 1 0=gAt s (i+1)from(p2M s i hil).symm];refine go 5 ?_;exact rd idh (⟨i+1,hil⟩)
  ·have hil:i=s.gone.length:=by have:=of_decide_eq_false hb10;omega
   subst hil;have hok':o0M {s with g:=gAt s s.gone.length,gone:= []} :=⟨hok.1,by show(gAt s _).length≤_;rw[hgl];exact hok.2.1,(k2I s hok _).2,hok.2.2.2⟩;refine go 8 ?_;refine b0F (fun w h=>c0C h) (b0F (c0W (s:= {s with g:=gAt s s.gone.length,gone:= []}) (by_:=by_) (o:=o) (gv:= .slice none 0 0) (gc:= []) ⟨by simp,.inl ⟨rfl,rfl,rfl⟩⟩ hok' gSp) (d0Q rfl rfl gSp))
theorem m1C {C:Type} (run:Run (St×C) Unit) (x:St×C) (e:Int) (y:St×C):o0I run x≠(.err e,y):=by
 unfold o0I;split
 ·intro h;cases h
 ·split
  ·split<;>(intro h;cases h)
  ·split<;>(intro h;cases h)
  ·intro h;cases h
theorem t0V {C:Type} (W:World) (a:Ad) (RC:C→a0E) (g:FuncId) (cap:List Value) (run:Run (St×C) Unit) (s:St) (c:C) (hb:f0H prog g=true) (hnb:(o0J run (s,c)).1≠ .big)
 (hrun:(run ({s with depth:=s.depth+1},c)).1≠ .big→a0G prog g cap.toArray (RS W a {s with depth:=s.depth+1} ++ [RC c]) (Ran fT (fun x=>RS W a x.1++ [RC x.2]) (fun _=> .tuple #[]) (run ({s with depth:=s.depth+1},c)))):
 a0G prog 50 #[ptr a.heap,.func (.func g) #[] cap.toArray] (RS W a s++ [RC c]) (Ran fT (fun x=>RS W a x.1++ [RC x.2]) (fun e=> .int .i64 e) (o0J run (s,c))):=by
 have hl:=z1D W a RC g cap run s c hb (c0I hnb) hrun;cases ho:o0I run (s,c)with
 |mk x y=>
 obtain⟨t,c'⟩:=y;rw[ho]at hl;cases x with
 |big=>exact(c0I hnb (by rw[ho])).elim
 |err e=>exact(m1C _ _ _ _ ho).elim
 |ok e=>
  have hl':=hl.ran_ok;by_cases h0:t.depth=0
  ·have htr:o0J run (s,c)=(.ok e,(u0F t,c')):=by simp[o0J,a0B,ho,h0]
   rw[htr];refine en func50 ntmps50 fun R w0=> ?_;refine e0C gFd fun by_ gv gc o hgo hok=> ?_;simp only[d0B,c0R,List.cons_append,List.nil_append];refine go 6 ?_;skip;refine go 6 ?_;refine e0X (c0W hgo hok gSp) (b0X rfl Hb.o rfl (hl') gSp ?_);refine ns ?_;refine go 5 ?_;refine e0C gFd fun by2 gv2 gc2 o2 hgo2 hok2=> ?_;simp only[d0B,c0R,List.cons_append,List.nil_append];refine go 5 ?_;refine e0X (c0W hgo2 hok2 gSp) (b0X rfl Hb.o rfl (q1F a t) gSp ?_);refine ns ?_;refine go 3 ?_;refine d0P rfl (by rw[h0];rfl) ?_;refine cg 2 (o1L a t) ?_;refine go 8 ?_;exact rR idh rfl
  ·have htr:o0J run (s,c)=(.ok e,(t,c')):=by simp[o0J,a0B,ho,h0]
   rw[htr];refine en func50 ntmps50 fun R w0=> ?_;refine e0C gFd fun by_ gv gc o hgo hok=> ?_;simp only[d0B,c0R,List.cons_append,List.nil_append];refine go 12 ?_;refine e0X (c0W hgo hok gSp) (b0X rfl Hb.o rfl (hl') gSp ?_);refine ns ?_;refine go 5 ?_;refine e0C gFd fun by2 gv2 gc2 o2 hgo2 hok2=> ?_;simp only[d0B,c0R,List.cons_append,List.nil_append];refine go 5 ?_;refine e0X (c0W hgo2 hok2 gSp) (b0X rfl Hb.o rfl (q1F a t) gSp ?_);refine ns ?_;refine go 3 ?_;refine b0S rfl (decide_eq_false (by omega)) ?_;refine go 8 ?_;exact rR idh rfl
theorem t0W {n:Nat} {α S:Type} {o:Out α×S} (h:o.1≠ .big) (hb:1000000000≤n→o.1= .big):n<1000000000:=by
 rcases Nat.lt_or_ge n 1000000000 with h'|h'
 ·exact h'
 ·exact(h (hb h')).elim
theorem h1X {s:St} (k:Int) (h:s.log.length<1000000000):l0B k s=(.ok (),{s with log:=bk s.depth s.log (.refs k (a0C k s.refs)),refs:=b0D k s.refs}):=by
 simp[l0B,a0B,back,show ¬1000000000≤s.log.length by omega]
theorem f1G {s:St} (k:Int) (h:s.log.length<1000000000):f0M k s=(.ok (),{s with log:=bk s.depth s.log (.young k (a0C k s.young)),young:=b0D k s.young}):=by
 simp[f0M,a0B,back,show ¬1000000000≤s.log.length by omega]
theorem f2N {s:St} (l:List Int) (hl:l.length<1000000000) (h:s.log.length<1000000000):h0X l s=(.ok (),{s with log:=bk s.depth s.log (.gone s.gone),gone:=l}):=by
 simp[h0X,a0B,back,show ¬1000000000≤s.log.length by omega,show ¬1000000000≤l.length by omega]
theorem o1M {s:St} (st:c0U) (h:s.log.length<1000000000):back st s=(.ok (),{s with log:=bk s.depth s.log st}):=by
 simp[back,show ¬1000000000≤s.log.length by omega]
theorem v1N {s:St} {st:c0U} (h:(back st s).1≠ .big):s.log.length<1000000000:=by
 rcases Nat.lt_or_ge s.log.length 1000000000 with h'|h'
 ·exact h'
 ·exact(h (by simp[back,h'])).elim
theorem q1G {s:St} {k:Int} (h:(e0G k s).1≠ .big):inR k=true:=by
 cases hi:inR k with
 |true=>rfl
 |false=>exact(h (by simp[e0G,hi])).elim
theorem k2J {s:St} {k:Int} (hnb:(e0G k s).1≠ .big) (h1:c0N s k=1):
 inR k=true∧s.log.length<1000000000∧(bk s.depth s.log (.refs k (a0C k s.refs))).length<1000000000∧
 (let l2:=bk s.depth (bk s.depth s.log (.refs k (a0C k s.refs))) (.back k)
  if 0<h0Y s k then s.gone.length+1<1000000000∧l2.length<1000000000∧(bk s.depth l2 (.young k (a0C k s.young))).length<1000000000∧
   e0G k s=(.ok true,{s with refs:=b0D k s.refs,g:=mvL s.fr s.g k 1 2,young:=b0D k s.young,gone:=s.gone++ [k],log:=bk s.depth (bk s.depth l2 (.young k (a0C k s.young))) (.gone s.gone)})
   else e0G k s=(.ok true,{s with refs:=b0D k s.refs,g:=mvL s.fr s.g k 1 2,log:=l2})):=by
 have hi:=q1G hnb;have e1:e0G k s=a0B (l0B k) (fun _=>a0B (fun s=>back (.back k) {s with g:=mvL s.fr s.g k 1 2}) fun _=>
  a0B (fun s=>if 0<h0Y s k then a0B (f0M k) (fun _ s=>h0X (s.gone++ [k]) s) s else ret () s) fun _=>ret true) s:=by
  simp[e0G,hi,h1]
 rw[e1]at hnb;have a1:s.log.length<1000000000:=b2Z (c0I hnb) fun h=>by simp[l0B,a0B,back,h]
 have b1:=p0H hnb (h1X k a1);have a2:=v1N (c0I b1);have b2:=p0H b1 (o1M _ a2);refine⟨hi,a1,a2,?_⟩;simp only;rw[e1,a0A (h1X k a1),a0A (m:=fun s=>back (.back k) {s with g:=mvL s.fr s.g k 1 2}) (o1M (s:= {s with refs:=b0D k s.refs,g:=mvL s.fr s.g k 1 2,log:=bk s.depth s.log (.refs k (a0C k s.refs))}) (.back k) a2)];have b3:=c0I b2;split
 ·rename_i hy;have hy':0<h0Y {s with refs:=b0D k s.refs,g:=mvL s.fr s.g k 1 2,log:=bk s.depth (bk s.depth s.log (.refs k (a0C k s.refs))) (.back k)} k:=hy;rw[if_pos hy']at b3;have a3:=t0W (n:=(bk s.depth (bk s.depth s.log (.refs k (a0C k s.refs))) (.back k)).length) (c0I b3) fun h=>by simp[f0M,a0B,back,h]
  have b4:=p0H b3 (f1G k a3);have a4:=t0W (n:=(bk s.depth (bk s.depth (bk s.depth s.log (.refs k (a0C k s.refs))) (.back k)) (.young k (a0C k s.young))).length) b4 fun h=>by simp only[h0X];split<;>simp[a0B,back,h]
  have a5:=t0W (n:=(s.gone++ [k]).length) b4 fun h=>by rw[h0X,if_pos h]
  refine⟨by simpa using a5,a3,a4,?_⟩;have e:(fun s=>if 0<h0Y s k then a0B (f0M k) (fun _ s=>h0X (s.gone++ [k]) s) s else ret () s) {s with refs:=b0D k s.refs,g:=mvL s.fr s.g k 1 2,log:=bk s.depth (bk s.depth s.log (.refs k (a0C k s.refs))) (.back k)} =
   (.ok (),{s with refs:=b0D k s.refs,g:=mvL s.fr s.g k 1 2,young:=b0D k s.young,gone:=s.gone++ [k],log:=bk s.depth (bk s.depth (bk s.depth (bk s.depth s.log (.refs k (a0C k s.refs))) (.back k)) (.young k (a0C k s.young))) (.gone s.gone)}):=by
   simp only[if_pos hy'];rw[a0A (f1G k a3),f2N _ a5 a4]
  rw[a0A e];rfl
 ·rename_i hy;have hy': ¬0<h0Y {s with refs:=b0D k s.refs,g:=mvL s.fr s.g k 1 2,log:=bk s.depth (bk s.depth s.log (.refs k (a0C k s.refs))) (.back k)} k:=hy;have e:(fun s=>if 0<h0Y s k then a0B (f0M k) (fun _ s=>h0X (s.gone++ [k]) s) s else ret () s) {s with refs:=b0D k s.refs,g:=mvL s.fr s.g k 1 2,log:=bk s.depth (bk s.depth s.log (.refs k (a0C k s.refs))) (.back k)} =
   (.ok (),{s with refs:=b0D k s.refs,g:=mvL s.fr s.g k 1 2,log:=bk s.depth (bk s.depth s.log (.refs k (a0C k s.refs))) (.back k)}):=by
   simp only[if_neg hy'];rfl
  rw[a0A e];rfl
theorem q1H {gv:Value} {l:List Int} {gc:List (Nat×Obj)} {b cap:Nat} {cur:List Value} {k:Int} (hg:n0E gv l gc) (hk:inR k=true) (h1:l.length+1≤cap) (h2:cap≤maxLen) (h3:cur.length=cap*1) (h4:cur.take ((l.length+1)*1)=l.map a0H++ [.int .i64 k]):
 n0E (.slice (some ⟨b,0,none⟩) (l.length+1) cap) (l++ [k]) [(b,.cells cur.toArray 3 (0,0))]:=by
 refine⟨fun x hx=> ?_,.inr ⟨b,cap,cur,by simp,by simpa using h1,h2,by simpa using h3,by simpa [a0H] using h4,rfl⟩⟩;rcases List.mem_append.1 hx with hx|hx
 ·exact hg.1 x hx
 ·simp at hx;subst hx;exact hk
theorem f2O (W:World) (a:Ad) (s:St) (at_:Int) (h0:c0N s at_=0):a0G prog 206 #[ptr a.heap,.int .i64 at_] (RS W a s) (Ran fT (RS W a) (fun b=> .bool b) ((.err 6,s):Out Bool×St)):=by
 have h0':(a0C at_ s.refs).getD 0=0:=h0;refine en func206 ntmps206 fun R w0=> ?_;refine e0C gFd fun by_ gv gc o hg hok=> ?_;simp only[d0B,c0R,List.cons_append,List.nil_append];refine go 2 ?_;refine bx fun b2=> ?_;refine bx fun b3=> ?_;refine go 10 ?_;refine b0V (e0Q (ek:=a0H) (ev:=a0H) c0Y.o h0C (tt fun _=>trivial) trivial Zr.o rfl rfl gFd e0I) ?_;refine go 16 ?_;refine d0P rfl (by simp[h0']) ?_;refine go 1 ?_;refine c0A rfl Hb.o rfl (c0M 6) gSp ?_;refine ns ?_;refine pn ?_;refine b0F (c0W hg hok gSp) (d0U idh (b0A.back gSp) ⟨rfl,rfl⟩)
theorem k2K (W:World) (a:Ad) (s:St) (at_:Int) (h0: ¬c0N s at_=0) (h1: ¬c0N s at_=1) (hn:s.log.length<1000000000):
 a0G prog 206 #[ptr a.heap,.int .i64 at_] (RS W a s) (Ran fT (RS W a) (fun b=> .bool b) ((.ok false,{s with log:=bk s.depth s.log (.refs at_ (a0C at_ s.refs)),refs:=b0O at_ (j0Z (c0N s at_-1)) s.refs}):Out Bool×St)):=by
 have h0': ¬(a0C at_ s.refs).getD 0=0:=h0;have h1': ¬(a0C at_ s.refs).getD 0=1:=h1;refine en func206 ntmps206 fun R w0=> ?_;refine e0C gFd fun by_ gv gc o hg hok=> ?_;simp only[d0B,c0R,List.cons_append,List.nil_append];refine go 2 ?_;refine bx fun b2=> ?_;refine bx fun b3=> ?_;refine go 10 ?_;refine b0V (e0Q (ek:=a0H) (ev:=a0H) c0Y.o h0C (tt fun _=>trivial) trivial Zr.o rfl rfl gFd e0I) ?_;refine go 16 ?_;refine b0S rfl (by simp[h0']) ?_;refine go 6 ?_;refine b0S rfl (by simp[h1']) ?_;refine go 3 ?_;refine tl 11 ?_;refine go 10 ?_;refine b0V (k1O rfl rfl) ?_;refine go 1 ?_;rw[f1F];refine d0Z rfl Hb.o rfl (q0E a by_ o s.log s.depth a.refs s.refs at_ (j0Z (c0N s at_-1)) (.refs at_ (a0C at_ s.refs)) hn (fun _ _ _ _=>⟨_,_,_,_,.inl rfl,rfl⟩)) gSp ?_;rintro e _;refine ns ?_;refine go 7 ?_;refine b0U (c0W (s:= {s with log:=bk s.depth s.log (.refs at_ (a0C at_ s.refs)),refs:=b0O at_ (j0Z (c0N s at_-1)) s.refs}) hg hok gSp) (n0M rfl idh rfl rfl gSp)
end Go.Proofs.Q

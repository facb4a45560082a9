/- Part of the proof; no statement of its own. -/
import Derived.Test.YtpinhnikemamjaaGreatDoorN18
import Derived.Test.YtpinhnikemamjaaGreatDoorN19
import Derived.Test.YtpinhnikemamjaaGreatDoorN08
import Derived.Test.YtpinhnikemamjaaGreatDoorN06
set_option linter.all false
set_option maxRecDepth 4000
set_option maxHeartbeats 4000000
attribute [local irreducible] Go.Sl.a0O Go.Sl.OW Go.Sl.CW Go.Sl.OS Go.Sl.OM Go.Sl.OMf Go.Sl.KM
namespace Go.Proofs.Q
open Go.Sl Go.Sb Tryz
theorem t1O (W:World) (a:Ad) (t:St):RS W a (k0F t)= [whole W,dkC a t.d,dkR a t.d,m0K (l0R t.d),stC a t.bits,mpC a,HL a (k0F t)]:=by unfold k0F;split<;>rfl
theorem w0G (s:St): ∀l,(e0I s l).d=s.d∧(e0I s l).bits=s.bits
 | []=>⟨rfl,rfl⟩
 |st::l=>by
  have:=w0G s l;cases st<;>exact this
theorem t1P (m:Nat) (s:St):(d0J m s).d=s.d:=(w0G s _).1
theorem g1N (m:Nat) (s:St):(d0J m s).bits=s.bits:=(w0G s _).2
theorem x1J {C:Type} (W:World) (a:Ad) (RC:C→a0C) (g:FuncId) (cap:List Value) (run:Run (St×C) Unit) (s:St) (c:C) (hb:e0Y prog g=true) (hnb:(n0S run (s,c)).1≠ .big)
 (hrun:(run ({s with depth:=s.depth+1},c)).1≠ .big→a0F prog g cap.toArray (RS W a {s with depth:=s.depth+1} ++ [RC c]) (Ran fT (fun x=>RS W a x.1++ [RC x.2]) (fun _=> .tuple #[]) (run ({s with depth:=s.depth+1},c)))):
 a0F prog 105 #[ptr a.log,.func (.func g) #[] cap.toArray] (RS W a s++ [RC c]) (Ran fT (fun x=>RS W a x.1++ [RC x.2]) (fun e=> .int .i64 e) (n0S run (s,c))):=by
 have hd:s.depth<1000000000:=by
  rcases Nat.lt_or_ge s.depth 1000000000 with h|h
  ·exact h
  ·exact(hnb (by simp[n0S,h])).elim
 have hd': ¬1000000000≤s.depth:=by omega
 cases ho:run ({s with depth:=s.depth+1},c)with
 |mk x y=>
 obtain⟨t,c'⟩:=y;rw[ho]at hrun;cases x with
 |big=>exact(hnb (by simp[n0S,hd',ho])).elim
 |ok x=>
  have ht:t.depth≠0:=fun h=>hnb (by simp[n0S,hd',ho,h]);have htr:n0S run (s,c)=(.ok 0,(k0F t,c')):=by simp[n0S,hd',ho,ht]
  have hg:=n2B g cap _ _ _ hb (hrun (by simp)).ran_ok;refine y0U (args:= [_,_]) func105 rfl ntmps105 rfl (fun R w0=> ?_);simp only[j0Q,List.cons_append,List.nil_append];refine e0J gFd fun by_ gv gc o hgo hok=> ?_;refine x0O gFd fun v vals hlk hdp hv1=> ?_;have hlen:=hlk.len;refine go 11 ?_;refine a0D (h0Y Tsl.o rfl gFd) ?_;refine go 14 ?_;rw[show((s.depth:Nat):Int)+1=((s.depth+1:Nat):Int)from rfl];refine b0G (p0P hlk (depth:=s.depth+1) (by omega) gSp) ?_;refine b0G (d0A (s:= {s with depth:=s.depth+1}) hgo hok gSp) ?_;refine go 4 ?_;refine h1F (f:=147) (first:= []) (cap:= []) rfl rfl ?_;refine cg 5 (hg) ?_;refine go 19 ?_;refine r0M (j1U (cap:= []) (args:= [ptr a.log]) (.inr rfl) idh rfl Hb.o (k1S a t (Nat.pos_of_ne_zero ht)) gSp (fun _ _=>⟨RS W a (k0F t)++ [RC c'],_,by rw[t1O];(try rw[t1P,g1N]);simp only[List.cons_append,List.nil_append];exact gSp,by rw[htr];exact⟨rfl,rfl⟩⟩))
 |err e=>
  have ht: ¬(t.depth=0∨e=0):=fun h=>hnb (by simp[n0S,hd',ho,h]);have htr:n0S run (s,c)=(.ok e,(k0F (d0J s.log.length t),c')):=by simp[n0S,hd',ho,ht]
  have hg:=h2Y g cap _ (RS W a t++ [RC c']) e hb (hrun (by simp));have hdu:(d0J s.log.length t).depth=t.depth:=(d1Z t _).2;refine y0U (args:= [_,_]) func105 rfl ntmps105 rfl (fun R w0=> ?_);simp only[j0Q,List.cons_append,List.nil_append];refine e0J gFd fun by_ gv gc o hgo hok=> ?_;refine x0O gFd fun v vals hlk hdp hv1=> ?_;have hlen:=hlk.len;refine go 11 ?_;refine a0D (h0Y Tsl.o rfl gFd) ?_;refine go 14 ?_;rw[show((s.depth:Nat):Int)+1=((s.depth+1:Nat):Int)from rfl];refine b0G (p0P hlk (depth:=s.depth+1) (by omega) gSp) ?_;refine b0G (d0A (s:= {s with depth:=s.depth+1}) hgo hok gSp) ?_;refine go 4 ?_;refine h1F (f:=147) (first:= []) (cap:= []) rfl rfl ?_;refine cg 5 (hg) ?_;refine go 10 ?_;refine d0R rfl (by simp;exact fun h=>ht (.inr h)) ?_;rw[←hlen];refine e0J gFd fun by2 gv2 gc2 o2 hgo2 hok2=> ?_;refine ce 3 (s2V a by2 gv2 gc2 o2 t s.log.length hgo2 hok2) ?_;rintro⟨gv3,gc3,o3⟩ hx;refine ns ?_;refine go 1 ?_;refine b0G (d0A (s:=d0J s.log.length t) hx.1 hx.2 gSp) ?_;refine go 7 ?_;refine r0M (j1U (cap:= []) (args:= [ptr a.log]) (.inr rfl) idh rfl Hb.o (k1S a (d0J s.log.length t) (by rw[hdu];omega)) gSp (fun _ _=>⟨RS W a (k0F (d0J s.log.length t))++ [RC c'],_,by rw[t1O];(try rw[t1P,g1N]);simp only[List.cons_append,List.nil_append];exact gSp,by rw[htr];exact⟨rfl,rfl⟩⟩))
abbrev dk3 (a:Ad) (d:Dk):List a0C:= [dkC a d,dkR a d,m0K (l0R d)]
def k0I (_:Unit):Value:= .tuple #[]
theorem o0Z (a:Ad) (d:Dk) (h:d.dead=false):a0F prog 225 #[ptr a.disk] [dkC a d] (a0T (.tuple #[]) [dkC a d]):=by
 refine en func225 ntmps225 fun R w0=> ?_;refine go 8 ?_;refine b0R rfl h ?_;refine go 1 ?_;refine d0W rfl rfl gSp
theorem i1K (a:Ad) (d:Dk) (h:d.dead=true):a0F prog 225 #[ptr a.disk] [dkC a d] (fun en L=>en= .panicked (s0S fT 12)∧L= [dkC a d]):=by
 refine en func225 ntmps225 fun R w0=> ?_;refine go 8 ?_;refine d0R rfl h ?_;refine go 1 ?_;refine c0G rfl Hb.o rfl (c0S 12) gSp ?_;refine ns ?_;refine pn ?_;refine e0A idh (a0Z.back gSp) ⟨rfl,rfl⟩
theorem b1Q (a:Ad) (d:Dk) (at_:Int) (h: ¬(at_<0∨(d.l.length:Int)≤at_)):a0F prog 226 #[ptr a.disk,.int .i64 at_] [dkC a d,dkR a d] (a0T (.tuple #[]) [dkC a d,dkR a d]):=by
 refine en func226 ntmps226 fun R w0=> ?_;refine o0L gFd fun p cap hv hcap hl=> ?_;refine go 10 ?_;refine c0R (h0Y Tsl.o rfl gFd) (wg rfl rfl rfl (wFF gF)) ?_;refine go 6 ?_;refine d0W rfl rfl gSp
theorem t1Q (a:Ad) (d:Dk) (at_:Int) (h:at_<0∨(d.l.length:Int)≤at_):a0F prog 226 #[ptr a.disk,.int .i64 at_] [dkC a d,dkR a d] (fun en L=>en= .panicked (s0S fT 6)∧L= [dkC a d,dkR a d]):=by
 by_cases h0:at_<0
 ·refine en func226 ntmps226 fun R w0=> ?_;refine go 17 ?_;refine c0G rfl Hb.o rfl (c0S 6) gSp ?_;refine ns ?_;refine pn ?_;refine e0A idh (a0Z.back gSp) ⟨rfl,rfl⟩
 ·refine en func226 ntmps226 fun R w0=> ?_;refine go 10 ?_;refine c0R (h0Y Tsl.o rfl gFd) (wg rfl rfl rfl (wFF gF)) ?_;refine go 6 ?_;refine c0G rfl Hb.o rfl (c0S 6) gSp ?_;refine ns ?_;refine pn ?_;refine e0A idh (a0Z.back gSp) ⟨rfl,rfl⟩
theorem d2H (a:Ad) (d:Dk) (hl:d.left<4611686018427387904):a0F prog 285 #[ptr a.disk] [dkC a d] (Ran fT (fun d=> [dkC a d]) k0I (k0K d)):=by
 by_cases h1:d.dead=true
 ·have e:k0K d=(.err 12,d):=by simp[k0K,h1]
  rw[e];refine en func285 ntmps285 fun R w0=> ?_;refine go 3 ?_;refine c0G rfl Hb.o rfl (i1K a d h1) gSp ?_;refine ns ?_;refine pn ?_;refine e0A idh (a0Z.back gSp) ⟨rfl,rfl⟩
 ·have h1':d.dead=false:=by simpa using h1
  by_cases h2:d.armed=false
  ·have e:k0K d=(.ok (),d):=by simp[k0K,h1',h2]
   rw[e];refine en func285 ntmps285 fun R w0=> ?_;refine cg 3 (o0Z a d h1') ?_;refine go 12 ?_;refine d0R rfl (by rw[h2];rfl) ?_;exact rR idh rfl
  ·have h2':d.armed=true:=by simpa using h2
   cases h3:d.left with
   |zero=>
    have e:k0K d=(.err 12,{d with dead:=true}):=by simp[k0K,h1',h2',h3]
    rw[e];refine en func285 ntmps285 fun R w0=> ?_;refine cg 3 (o0Z a d h1') ?_;refine go 12 ?_;refine b0R rfl (by rw[h2'];rfl) ?_;refine go 12 ?_;refine d0R rfl (by rw[h3];rfl) ?_;refine go 9 ?_;refine c0G rfl Hb.o rfl (c0S 12) gSp ?_;refine ns ?_;refine pn ?_;refine e0A idh (a0Z.back gSp) ⟨rfl,rfl⟩
   |succ n=>
    have e:k0K d=(.ok (),{d with left:=n}):=by simp[k0K,h1',h2',h3]
    rw[e];refine en func285 ntmps285 fun R w0=> ?_;refine cg 3 (o0Z a d h1') ?_;refine go 12 ?_;refine b0R rfl (by rw[h2'];rfl) ?_;refine go 12 ?_;refine b0R rfl (by rw[h3];exact decide_eq_false (by omega)) ?_;refine go 12 ?_;rw[show((d.left:Nat):Int)-1=((n:Nat):Int) by omega];exact fR rfl
abbrev b0B (s:B):Value:= .string (bs s)
theorem i2B {l:List (B×B)} {i:Nat} {x:B×B} (h:l[i]? =some x):nth (l.flatMap t0U) (2*i)=some (b0B x.1)∧nth (l.flatMap t0U) (2*i+1)=some (b0B x.2):=by
 induction l generalizing i with
 |nil=>simp at h
 |cons y l ih=>
  cases i with
  |zero=>simp at h;subst h;exact⟨rfl,rfl⟩
  |succ i=>
   have:=ih (i:=i) (by simpa using h);simp only[List.flatMap_cons];exact this
theorem t0S (l:List (B×B)):(l.flatMap t0U).length=l.length*2:=by
 induction l with
 |nil=>rfl
 |cons x l ih=>simp only[List.flatMap_cons,List.length_append,ih,List.length_cons,t0U];simp;omega
theorem s2W (l:List (B×B)) (i:Nat) (x:B×B) (v:B) (h:l[i]? =some x):(l.flatMap t0U).set (2*i+1) (b0B v)=(l.set i (x.1,v)).flatMap t0U:=by
 induction l generalizing i with
 |nil=>simp at h
 |cons y l ih=>
  cases i with
  |zero=>simp at h;subst h;rfl
  |succ i=>
   have:=ih i (by simpa using h);simp only[List.flatMap_cons,List.set_cons_succ];show _=t0U y++_;rw[←this];rfl
theorem d2I {d:Dk} {at_:Int} (h: ¬(at_<0∨(d.l.length:Int)≤at_)):d.l[at_.toNat]? =some (d.l.getD at_.toNat ([],[])):=by
 have:at_.toNat<d.l.length:=by omega
 simp[List.getD_eq_getElem?_getD,List.getElem?_eq_getElem this]
theorem d2J (a:Ad) (d:Dk) (at_:Int):a0F prog 187 #[ptr a.disk,.int .i64 at_] [dkC a d,dkR a d] (Ran fT (fun _=> [dkC a d,dkR a d]) b0B (n0F d at_,d)):=by
 by_cases h1:d.dead=true
 ·have e:n0F d at_= .err 12:=by simp[n0F,h1]
  rw[e];refine en func187 ntmps187 fun R w0=> ?_;refine go 8 ?_;refine c0G rfl Hb.o rfl (i1K a d h1) gSp ?_;refine ns ?_;refine pn ?_;refine e0A idh (a0Z.back gSp) ⟨rfl,rfl⟩
 ·have h1':d.dead=false:=by simpa using h1
  by_cases h2:at_<0∨(d.l.length:Int)≤at_
  ·have e:n0F d at_= .err 6:=by simp[n0F,h1',h2]
   rw[e];refine en func187 ntmps187 fun R w0=> ?_;refine cg 8 (o0Z a d h1') ?_;refine go 6 ?_;refine c0G rfl Hb.o rfl (t1Q a d at_ h2) gSp ?_;refine ns ?_;refine pn ?_;refine e0A idh (a0Z.back gSp) ⟨rfl,rfl⟩
  ·have e:n0F d at_= .ok (d.l.getD at_.toNat ([],[])).2:=by simp[n0F,h1',h2]
   have hat:=i2B (d2I h2);rw[e];refine en func187 ntmps187 fun R w0=> ?_;refine o0L gFd fun p cap hv hcap hl=> ?_;refine cg 8 (o0Z a d h1') ?_;refine cg 6 (b1Q a d at_ h2) ?_;refine go 3 ?_;refine i0Y gFd (by omega) fun b cap hv' hcap=> ?_;simp only[dkC,dkR];rw[hv'];refine go 8 ?_;refine a0D (a0U Sc.o rfl gFd (by rw[show 0+at_.toNat*2+1=2*at_.toNat+1 by omega];exact hat.2)) ?_;refine go 3 ?_;rw[←hv'];exact rR idh rfl
def stl (x:Nat):Nat:=if x=2 then 0 else x
def i0U (l:List Nat) (i:Nat):List Nat:=(l.take i).map stl++l.drop i
theorem x0Q (l:List Nat) (i:Nat) (h:i≤l.length):(i0U l i).length=l.length:=by simp[i0U];omega
theorem e1A (l:List Nat) (i:Nat) (h:i<l.length):(i0U l i)[i]? =some l[i]:=by
 unfold i0U;rw[List.getElem?_append_right (by simp;omega)];simp[Nat.min_eq_left (Nat.le_of_lt h),List.getElem?_eq_getElem h]
theorem c1N (l:List Nat) (i:Nat) (h:i<l.length):(i0U l i).set i (stl l[i])=i0U l (i+1):=by
 unfold i0U;rw[List.set_append_right _ _ (by simp;omega)];have h1:i- ((l.take i).map stl).length=0:=by simp;omega
 rw[h1,List.drop_eq_getElem_cons h,List.set_cons_zero];simp only[List.take_succ,List.getElem?_eq_getElem h,Option.toList_some,List.map_append,List.map_cons,List.map_nil,List.append_assoc,List.cons_append,List.nil_append]
theorem q1H (l:List Nat) (i:Nat) (h:i<l.length) (h2: ¬l[i]=2):i0U l i=i0U l (i+1):=by
 rw[←c1N l i h,show stl l[i]=l[i] by simp[stl,h2]];apply List.ext_getElem?;intro k;rw[List.getElem?_set];split
 ·rename_i hk;subst hk;rw[e1A l _ h];simp[x0Q l _ (Nat.le_of_lt h),h]
 ·rfl
abbrev gmN (b bl fr n:Nat) (l:List Nat):List a0C:= [pts b (.cells #[.int .i64 fr,.slice (some ⟨bl,0,none⟩) n n,.int .i64 (l.count 0),.int .i64 (l.count 1),.int .i64 (l.count 2)] 192 (0,0)),pts bl (.cells (l.map gst).toArray 3 (0,0))]
theorem gm_N {b bl fr:Nat} {l:List Nat} {n:Nat} (h:l.length=n):gm b bl fr l=gmN b bl fr n l:=by subst h;rfl
theorem t1R (b bl fr:Nat) (l:List Nat) (hfr:fr≤5000) (hl:l.length≤5000) (h3: ∀x∈l,x<3):
 a0F prog 104 #[.pointer (some ⟨b,0,none⟩)] (gm b bl fr l) (a0T (.tuple #[]) (gm b bl fr (f0O l))):=by
 refine en func104 ntmps104 fun R w0=> ?_
 try simp only[gm,l0F]
 refine go 11 ?_;refine j1O (L':=gmN b bl fr l.length (i0U l 0)++ [R]) (by simp[i0U,gmN]) ?_;simp only[gmN,List.cons_append,List.nil_append];refine a0V (X:= {i:Nat // i≤l.length}) (fun x=> [(0,.pointer (some ⟨b,0,none⟩)),(7,.slice (some ⟨bl,0,none⟩) l.length l.length),(8,.int .i64 l.length),(9,.int .i64 x.1)]) (fun x=>gmN b bl fr l.length (i0U l x.1)++ [R]) (fun x=>l.length-x.1) ⟨0,by omega⟩ gSu gSp ?_;rintro⟨i,hi⟩ m0 hm0
 try simp only at hm0
 try dsimp only
 have hsl:=x0Q l i hi;simp only[gmN,List.cons_append,List.nil_append];refine go 6 ?_;refine a0P rfl (fun hb10=> ?_) (fun hb10=> ?_)
 ·have hil:i<l.length:=by have:=of_decide_eq_true hb10;omega
  have h0P:=e1A l i hil;have hlt:=h3 _ (List.getElem_mem hil);refine go 8 ?_;refine a0D (b0M Sc.o rfl (k1P h0P (by omega))) ?_;refine go 10 ?_;refine a0P rfl (fun hb15=> ?_) (fun hb15=> ?_)
  ·have h2:l[i]=2:=by have:=of_decide_eq_true hb15;omega
   have hset:=d1R b bl fr i l[i] 0 (i0U l i) _ rfl h0P hlt (by omega) hfr (by omega);have hs2:=c1N l i hil;rw[show stl l[i]=0 by simp[stl,h2]]at hs2;rw[hs2,gm_N hsl,gm_N (x0Q l (i+1) hil)]at hset;refine cg 8 (hset) ?_;refine go 6 ?_;exact rd idh (⟨i+1,hil⟩)
  ·have h2: ¬l[i]=2:=by have:=of_decide_eq_false hb15;omega
   have hsm:=q1H l i hil h2;rw[hsm];refine go 6 ?_;exact rd idh (⟨i+1,hil⟩)
 ·have hil:i=l.length:=by have:=of_decide_eq_false hb10;omega
  subst hil;have he:i0U l l.length=f0O l:=by simp[i0U,f0O];intro x _;rfl
  rw[he];have hse:(f0O l).length=l.length:=by simp[f0O]
  refine go 1 ?_;rw[hse];refine d0W rfl rfl gSp
theorem d0M {a:Ad} {by_:Nat} {gv:Value} {gc:List (Nat×Obj)} {s:St} :TT a by_ gv gc s= [i0A a by_ gv s.keep,b0D (h0O gc),b0L by_ a0J a0J s.young,b0L a.refs a0J a0J s.refs,b0L a.ix e0C a0J s.index,b0L a.vols e0H d0Z s.vols,r0Q a s.next s.epoch,
 pts a.gr (.cells (l0F s.fr a.grl s.g).toArray 192 (0,0)),pts a.grl (.cells (s.g.map gst).toArray 3 (0,0))]:=rfl
theorem d2K (a:Ad) (s:St):a0F prog 17 #[ptr a.heap] [HL a s] (a0T (.int .i64 (b0K s)) [HL a s]):=by
 refine en func17 ntmps17 fun R w0=> ?_;refine e0J gFd fun by_ gv gc o hg hok=> ?_;simp only[d0M,c0Y,List.cons_append,List.nil_append];refine cg 11 (v0T a.gr a.grl s.fr s.g) ?_;refine go 3 ?_;refine b0V (d0A hg hok gSp) (f1A idh rfl rfl gSp)
theorem d2L (a:Ad) (s:St):a0F prog 20 #[ptr a.heap] [HL a s] (a0T (.int .i64 (q2E s)) [HL a s]):=by
 refine en func20 ntmps20 fun R w0=> ?_;refine e0J gFd fun by_ gv gc o hg hok=> ?_;simp only[d0M,c0Y,List.cons_append,List.nil_append];refine cg 11 (c2Z a.gr a.grl s.fr s.g) ?_;refine go 3 ?_;refine b0V (d0A hg hok gSp) (f1A idh rfl rfl gSp)
theorem o1V (a:Ad) (s:St):a0F prog 106 #[ptr a.log] [HL a s] (a0T (.int .i64 s.depth) [HL a s]):=by
 refine en func106 ntmps106 fun R w0=> ?_;refine e0J gFd fun by_ gv gc o hg hok=> ?_;refine x0O gFd fun v vals hlk hdp hv1=> ?_;refine go 14 ?_;refine b0V (p0P hlk hdp gSp) (b0V (d0A hg hok gSp) (f1A idh rfl rfl gSp))
theorem e1B (W:World) (a:Ad) (s:St) (at_:Int):a0F prog 152 #[ptr a.heap,.int .i64 at_] (RS W a s) (Ran fT (RS W a) b0B (h0P at_ s)):=by
 by_cases h0:d0K s at_=0
 ·have e:h0P at_ s=(.err 6,s):=by simp[h0P,h0]
  rw[e];have h0':(a0E at_ s.refs).getD 0=0:=h0;refine en func152 ntmps152 fun R w0=> ?_;refine e0J gFd fun by_ gv gc o hg hok=> ?_;simp only[d0M,c0Y,List.cons_append,List.nil_append];refine go 13 ?_;refine a0D (f0P (ek:=a0J) (ev:=a0J) d0I.o i0T (tt fun _=>trivial) trivial Zr.o rfl rfl gFd f0J) ?_;refine go 3 ?_;refine d0R rfl (decide_eq_true h0') ?_;refine go 1 ?_;refine c0G rfl Hb.o rfl (c0S 6) gSp ?_;refine ns ?_;refine pn ?_;refine b0G (d0A hg hok gSp) (e0A idh (a0Z.back gSp) ⟨rfl,rfl⟩)
 ·have e:h0P at_ s=(n0F s.d at_,s):=by simp[h0P,h0]
  have h0': ¬(a0E at_ s.refs).getD 0=0:=h0;rw[e];have hr:=d2J a s.d at_;cases hd:n0F s.d at_ with
  |big=>simp[n0F]at hd;split at hd<;>(try split at hd)<;>cases hd
  |ok b=>
   rw[hd]at hr;refine en func152 ntmps152 fun R w0=> ?_;refine e0J gFd fun by_ gv gc o hg hok=> ?_;simp only[d0M,c0Y,List.cons_append,List.nil_append];refine go 13 ?_;refine a0D (f0P (ek:=a0J) (ev:=a0J) d0I.o i0T (tt fun _=>trivial) trivial Zr.o rfl rfl gFd f0J) ?_;refine go 3 ?_;refine b0R rfl (decide_eq_false h0') ?_;refine cg 9 (hr.ran_ok) ?_;refine go 3 ?_;refine b0V (d0A hg hok gSp) (p0I rfl idh rfl rfl gSp)
  |err e'=>
   rw[hd]at hr;refine en func152 ntmps152 fun R w0=> ?_;refine e0J gFd fun by_ gv gc o hg hok=> ?_;simp only[d0M,c0Y,List.cons_append,List.nil_append];refine go 13 ?_;refine a0D (f0P (ek:=a0J) (ev:=a0J) d0I.o i0T (tt fun _=>trivial) trivial Zr.o rfl rfl gFd f0J) ?_;refine go 3 ?_;refine b0R rfl (decide_eq_false h0') ?_;refine go 9 ?_;refine c0G rfl Hb.o rfl (hr) gSp ?_;refine ns ?_;refine pn ?_;refine b0G (d0A hg hok gSp) (e0A idh (a0Z.back gSp) ⟨rfl,rfl⟩)
theorem i2C {s:St} (hok:n0W s):n0W {s with g:=f0O s.g,young:= []} :=⟨hok.1,by simpa [f0O] using hok.2.1,fun x hx=>by
 obtain⟨y,hy,rfl⟩:=List.mem_map.1 hx;have:=hok.2.2.1 y hy;split<;>omega,hok.2.2.2⟩
theorem t1S (a:Ad) (s:St) (h0:s.depth=0∧s.log= []):a0F prog 48 #[ptr a.heap] [HL a s] (a0T (.tuple #[]) [HL a {s with g:=f0O s.g,young:= []}]):=by
 refine en func48 ntmps48 fun R w0=> ?_;refine e0J gFd fun by_ gv gc o hg hok=> ?_;refine x0O gFd fun v vals hlk hdp hv1=> ?_;simp only[d0M,c0Y,List.cons_append,List.nil_append];have hv0:vals= []:=by have:=hlk.len;rw[h0.2]at this;exact List.eq_nil_of_length_eq_zero this.symm
 subst hv0;refine cg 6 (t1R a.gr a.grl s.fr s.g hok.1 hok.2.1 hok.2.2.1) ?_;refine go 2 ?_;skip;refine go 2 ?_;refine(q0T (fun b8=> ?_));refine go 4 ?_;refine b0G (p0P (a:=a) (by_:=b8) (o:=o) (log:=s.log) (depth:=s.depth) (v:=v) (vals:= []) (by rw[h0.2];exact⟨by simp,[],o,List.Perm.refl _,rfl,rfl,by simp⟩) hdp gSp) ?_;refine b0G (fun w h=>t0M a0J a0J ((show Fnd _ (pts b8 _) _ from gFd).sat h)) ?_;refine b0G (d0A (s:= {s with g:=f0O s.g,young:= []}) (by_:=b8) hg (i2C hok) gSp) ?_;refine d0W rfl rfl gSp
theorem o1W (x:Int):IntKind.i64.wrap x=m0L x:=by rw[IntKind.wrap_i64];rfl
theorem z0D {s:St} {k v:Int} (h:(g0R k v s).1≠ .big):s.log.length<1000000000:=by
 rcases Nat.lt_or_ge s.log.length 1000000000 with h'|h'
 ·exact h'
 ·exact(h (by simp[g0R,a0B,back,h'])).elim
theorem v0U {s:St} (k v:Int) (h:s.log.length<1000000000):g0R k v s=(.ok (),{s with log:=bk s.depth s.log (.refs k (a0E k s.refs)),refs:=b0T k v s.refs}):=by
 simp[g0R,a0B,back,show ¬1000000000≤s.log.length by omega]
theorem x1K {s:St} (k v:Int) (h:s.log.length<1000000000):l0N k v s=(.ok (),{s with log:=bk s.depth s.log (.young k (a0E k s.young)),young:=b0T k v s.young}):=by
 simp[l0N,a0B,back,show ¬1000000000≤s.log.length by omega]
theorem d2M {s:St} (v:Int) (h:s.log.length<1000000000):w0C v s=(.ok (),{s with log:=bk s.depth s.log (.keep s.keep),keep:=v}):=by
 simp[w0C,a0B,back,show ¬1000000000≤s.log.length by omega]
theorem a2A {s:St} {α:Type} {o:Out α×St} (h:o.1≠ .big) (hb:1000000000≤s.log.length→o.1= .big):s.log.length<1000000000:=by
 rcases Nat.lt_or_ge s.log.length 1000000000 with h'|h'
 ·exact h'
 ·exact(h (hb h')).elim
theorem b1R (W:World) (a:Ad) (s:St) (at_:Int) (hnb:(k0E at_ s).1≠ .big):a0F prog 201 #[ptr a.heap,.int .i64 at_] (RS W a s) (Ran fT (RS W a) k0I (k0E at_ s)):=by
 by_cases h0:d0K s at_=0
 ·have e:k0E at_ s=(.err 6,s):=by simp[k0E,h0]
  rw[e];have h0':(a0E at_ s.refs).getD 0=0:=h0;refine en func201 ntmps201 fun R w0=> ?_;refine e0J gFd fun by_ gv gc o hg hok=> ?_;simp only[d0M,c0Y,List.cons_append,List.nil_append];refine go 8 ?_;refine a0D (f0P (ek:=a0J) (ev:=a0J) d0I.o i0T (tt fun _=>trivial) trivial Zr.o rfl rfl gFd f0J) ?_;refine go 3 ?_;refine d0R rfl (decide_eq_true h0') ?_;refine go 1 ?_;refine c0G rfl Hb.o rfl (c0S 6) gSp ?_;refine ns ?_;refine pn ?_;refine b0G (d0A hg hok gSp) (e0A idh (a0Z.back gSp) ⟨rfl,rfl⟩)
 ·have e1:k0E at_ s=g0R at_ (m0L (d0K s at_+1)) s:=by simp[k0E,h0]
  rw[e1]at hnb;have hn:=z0D hnb;rw[v0U _ _ hn]at e1;rw[e1];have h0': ¬(a0E at_ s.refs).getD 0=0:=h0;refine en func201 ntmps201 fun R w0=> ?_;refine e0J gFd fun by_ gv gc o hg hok=> ?_;simp only[d0M,c0Y,List.cons_append,List.nil_append];refine go 8 ?_;refine a0D (f0P (ek:=a0J) (ev:=a0J) d0I.o i0T (tt fun _=>trivial) trivial Zr.o rfl rfl gFd f0J) ?_;refine go 3 ?_;refine b0R rfl (decide_eq_false h0') ?_;refine go 2 ?_;refine tl 16 ?_;refine go 14 ?_;refine b0X (f0P (ek:=a0J) (ev:=a0J) d0I.o i0T (tt fun _=>trivial) trivial Zr.o rfl rfl gFd f0J) ?_;refine b0X (j1H rfl rfl) ?_;refine go 1 ?_;rw[o1W];refine d0S rfl Hb.o rfl (p0Q a by_ o s.log s.depth a.refs s.refs at_ (m0L (d0K s at_+1)) (.refs at_ (a0E at_ s.refs)) hn (fun _ _ _ _=>⟨_,_,_,_,.inl rfl,rfl⟩)) gSp ?_;rintro e _;refine ns ?_;refine go 1 ?_;refine b0G (d0A (s:= {s with log:=bk s.depth s.log (.refs at_ (a0E at_ s.refs)),refs:=b0T at_ (m0L (d0K s at_+1)) s.refs}) hg hok gSp) (w0D rfl rfl rfl gSp)
theorem k1T (W:World) (a:Ad) (s:St) (n:Int) (hnb:(o0A n s).1≠ .big):a0F prog 117 #[ptr a.heap,.int .i64 n] (RS W a s) (Ran fT (RS W a) k0I (o0A n s)):=by
 have hn:s.log.length<1000000000:=a2A hnb fun h=>by simp[o0A,w0C,a0B,back,h]
 rw[show o0A n s=_ from d2M (max n 0) hn];refine en func117 ntmps117 fun R w0=> ?_;refine e0J gFd fun by_ gv gc o hg hok=> ?_;simp only[d0M,c0Y,List.cons_append,List.nil_append];refine tl 9 ?_;refine ce 10 (x1E a by_ o s.log s.depth gv s.keep (max n 0) hn) ?_;rintro e _;refine ns ?_;refine go 1 ?_;refine b0G (d0A (s:= {s with log:=bk s.depth s.log (.keep s.keep),keep:=max n 0}) hg hok gSp) (w0D rfl rfl rfl gSp)
def f1P (fr:Nat) (g:List Nat) (x:Int):List Nat:=mvL fr (mvL fr g x 2 1) x 1 0
def gAt (s:St) (i:Nat):List Nat:=(s.gone.take i).foldl (f1P s.fr) s.g
theorem n2H (s:St) (i:Nat) (h:i<s.gone.length):gAt s (i+1)=f1P s.fr (gAt s i) s.gone[i]:=by
 unfold gAt;rw[List.take_succ,List.getElem?_eq_getElem h,List.foldl_append];rfl
theorem i2D (s:St) (hok:n0W s) (i:Nat):(gAt s i).length=s.g.length∧ ∀x∈gAt s i,x<3:=by
 unfold gAt;generalize s.gone.take i=l;have key: ∀(l:List Int) (g:List Nat),(∀x∈g,x<3)→(l.foldl (f1P s.fr) g).length=g.length∧ ∀x∈l.foldl (f1P s.fr) g,x<3:=by
  intro l
  induction l with
  |nil=>intro g h;exact⟨rfl,h⟩
  |cons y l ih=>
   intro g h;have:=ih (f1P s.fr g y) (w0O (by omega) (w0O (by omega) h));exact⟨by rw[List.foldl_cons,this.1];simp[f1P,w0N],this.2⟩
 exact key l s.g hok.2.2.1
theorem x1L (s:St):t0L s= {s with g:=gAt s s.gone.length,gone:= []} :=by simp[t0L,gAt];rfl
theorem b0Y {w:World} {M:List a0C} (h:Sat w M):Sat w (b0D []::M):=b0J.2 h
theorem s2X {cur:List Value} {l:List Int} (h:cur.take l.length=l.map a0J) {i k:Nat} (hi:i<l.length) (hk:k=i):nth cur k=some (.int .i64 l[i]):=by
 subst hk;rw[d0Y];have:(cur.take l.length)[k]? =some (a0J l[k]):=by rw[h];simp[hi]
 rw[List.getElem?_take_of_lt hi]at this;exact this
theorem m1Z (a:Ad) (s:St):a0F prog 107 #[ptr a.heap] [HL a s] (a0T (.tuple #[]) [HL a (t0L s)]):=by
 rw[x1L];refine en func107 ntmps107 fun R w0=> ?_;refine e0J gFd fun by_ gv gc o hg hok=> ?_;simp only[d0M,c0Y,List.cons_append,List.nil_append];obtain⟨hgr,⟨hg0,rfl,rfl⟩| ⟨g,cap,cur,rfl,hcap,hmx,hcl,htk,rfl⟩⟩:=hg
 ·refine go 12 ?_;refine a0V (X:=Unit) (fun _=> [(0,ptr a.heap),(7,.slice none 0 0),(8,.int .i64 0),(9,.int .i64 0)]) (fun _=> [i0A a by_ (.slice none 0 0) s.keep,e0E a by_ o s.log s.depth,b0D (h0O []),b0L by_ a0J a0J s.young,b0L a.refs a0J a0J s.refs,b0L a.ix e0C a0J s.index,b0L a.vols e0H d0Z s.vols,r0Q a s.next s.epoch,pts a.gr (.cells (l0F s.fr a.grl s.g).toArray 192 (0,0)),pts a.grl (.cells (s.g.map gst).toArray 3 (0,0)),R]) (fun _=>0) () gSu gSp ?_;rintro x m0 hm0
  try simp only at hm0
  try dsimp only
  skip;refine go 15 ?_;rw[show gAt s s.gone.length=s.g by simp[gAt,hg0]];refine b0G (d0A (s:= {s with g:=s.g,gone:= []}) (gv:= .slice none 0 0) (gc:= []) ⟨by simp,.inl ⟨rfl,rfl,rfl⟩⟩ hok gSp) (d0W rfl rfl gSp)
 ·try simp only[h0O,List.map_cons,List.map_nil]
  refine b0V (L':=pts g (.cells cur.toArray 3 (0,0)):: [i0A a by_ (.slice (some ⟨g,0,none⟩) s.gone.length cap) s.keep,e0E a by_ o s.log s.depth,b0L by_ a0J a0J s.young,b0L a.refs a0J a0J s.refs,b0L a.ix e0C a0J s.index,b0L a.vols e0H d0Z s.vols,r0Q a s.next s.epoch,pts a.gr (.cells (l0F s.fr a.grl (gAt s 0)).toArray 192 (0,0)),pts a.grl (.cells ((gAt s 0).map gst).toArray 3 (0,0)),R]) (fun w h=> ?_) ?_
  ·have h1:=b0J.1 ((show Fnd _ (b0D _) _ from gFd).sat h);exact h1.re gSp
  have hgl:=fun i=>(i2D s hok i).1;have hm2:s.gone.length≤9223372036854775807:=by simp only[maxLen]at hmx;omega
  try simp only[c0Y]
  refine go 12 ?_;refine a0V (X:= {i:Nat // i≤s.gone.length}) (fun x=> [(0,ptr a.heap),(7,.slice (some ⟨g,0,none⟩) s.gone.length cap),(8,.int .i64 s.gone.length),(9,.int .i64 x.1)]) (fun x=> [pts g (.cells cur.toArray 3 (0,0)),i0A a by_ (.slice (some ⟨g,0,none⟩) s.gone.length cap) s.keep,e0E a by_ o s.log s.depth,b0L by_ a0J a0J s.young,b0L a.refs a0J a0J s.refs,b0L a.ix e0C a0J s.index,b0L a.vols e0H d0Z s.vols,r0Q a s.next s.epoch]++gm a.gr a.grl s.fr (gAt s x.1)++ [R]) (fun x=>s.gone.length-x.1) ⟨0,by omega⟩ gSu gSp ?_;rintro⟨i,hi⟩ m0 hm0
  try simp only at hm0
  try dsimp only
  simp only[c0Y,List.cons_append,List.nil_append];refine go 6 ?_;refine a0P rfl (fun hb10=> ?_) (fun hb10=> ?_)
  ·have hil:i<s.gone.length:=by have:=of_decide_eq_true hb10;omega
   have hlt:(gAt s i).length≤5000:=by rw[hgl];exact hok.2.1
   refine go 7 ?_;refine a0D (b0M Sc.o rfl (s2X htk hil (by omega))) ?_;refine go 10 ?_;refine b0U rfl Hb.o rfl (k1R a.gr a.grl s.fr (gAt s i) s.gone[i] (x0P (hgr _ (List.getElem_mem hil))) hok.1 hlt) gSp ?_;refine ns ?_;refine go 8 ?_;refine b0U rfl Hb.o rfl (k1Q a.gr a.grl s.fr (mvL s.fr (gAt s i) s.gone[i] 2 1) s.gone[i] (x0P (hgr _ (List.getElem_mem hil))) hok.1 (by rw[w0N];exact hlt)) gSp ?_;refine ns ?_;refine go 1 ?_;rw[show mvL s.fr (mvL s.fr (gAt s i) s.gone[i] 2 1) s.gone[i] 1 0=gAt s (i+1)from(n2H s i hil).symm];refine go 5 ?_;exact rd idh (⟨i+1,hil⟩)
  ·have hil:i=s.gone.length:=by have:=of_decide_eq_false hb10;omega
   subst hil;have hok':n0W {s with g:=gAt s s.gone.length,gone:= []} :=⟨hok.1,by show(gAt s _).length≤_;rw[hgl];exact hok.2.1,(i2D s hok _).2,hok.2.2.2⟩;refine go 8 ?_;refine b0G (fun w h=>b0Y h) (b0G (d0A (s:= {s with g:=gAt s s.gone.length,gone:= []}) (by_:=by_) (o:=o) (gv:= .slice none 0 0) (gc:= []) ⟨by simp,.inl ⟨rfl,rfl,rfl⟩⟩ hok' gSp) (d0W rfl rfl gSp))
theorem k1U {C:Type} (run:Run (St×C) Unit) (x:St×C) (e:Int) (y:St×C):n0S run x≠(.err e,y):=by
 unfold n0S;split
 ·intro h;cases h
 ·split
  ·split<;>(intro h;cases h)
  ·split<;>(intro h;cases h)
  ·intro h;cases h
theorem t0D {C:Type} (W:World) (a:Ad) (RC:C→a0C) (g:FuncId) (cap:List Value) (run:Run (St×C) Unit) (s:St) (c:C) (hb:e0Y prog g=true) (hnb:(n0T run (s,c)).1≠ .big)
 (hrun:(run ({s with depth:=s.depth+1},c)).1≠ .big→a0F prog g cap.toArray (RS W a {s with depth:=s.depth+1} ++ [RC c]) (Ran fT (fun x=>RS W a x.1++ [RC x.2]) (fun _=> .tuple #[]) (run ({s with depth:=s.depth+1},c)))):
 a0F prog 50 #[ptr a.heap,.func (.func g) #[] cap.toArray] (RS W a s++ [RC c]) (Ran fT (fun x=>RS W a x.1++ [RC x.2]) (fun e=> .int .i64 e) (n0T run (s,c))):=by
 have hl:=x1J W a RC g cap run s c hb (c0I hnb) hrun;cases ho:n0S run (s,c)with
 |mk x y=>
 obtain⟨t,c'⟩:=y;rw[ho]at hl;cases x with
 |big=>exact(c0I hnb (by rw[ho])).elim
 |err e=>exact(k1U _ _ _ _ ho).elim
 |ok e=>
  have hl':=hl.ran_ok;by_cases h0:t.depth=0
  ·have htr:n0T run (s,c)=(.ok e,(t0L t,c')):=by simp[n0T,a0B,ho,h0]
   rw[htr];refine en func50 ntmps50 fun R w0=> ?_;refine e0J gFd fun by_ gv gc o hgo hok=> ?_;simp only[d0M,c0Y,List.cons_append,List.nil_append];refine go 6 ?_;skip;refine go 6 ?_;refine e0K (d0A hgo hok gSp) (b0U rfl Hb.o rfl (hl') gSp ?_);refine ns ?_;refine go 5 ?_;refine e0J gFd fun by2 gv2 gc2 o2 hgo2 hok2=> ?_;simp only[d0M,c0Y,List.cons_append,List.nil_append];refine go 5 ?_;refine e0K (d0A hgo2 hok2 gSp) (b0U rfl Hb.o rfl (o1V a t) gSp ?_);refine ns ?_;refine go 3 ?_;refine d0R rfl (by rw[h0];rfl) ?_;refine cg 2 (m1Z a t) ?_;refine go 8 ?_;exact rR idh rfl
  ·have htr:n0T run (s,c)=(.ok e,(t,c')):=by simp[n0T,a0B,ho,h0]
   rw[htr];refine en func50 ntmps50 fun R w0=> ?_;refine e0J gFd fun by_ gv gc o hgo hok=> ?_;simp only[d0M,c0Y,List.cons_append,List.nil_append];refine go 12 ?_;refine e0K (d0A hgo hok gSp) (b0U rfl Hb.o rfl (hl') gSp ?_);refine ns ?_;refine go 5 ?_;refine e0J gFd fun by2 gv2 gc2 o2 hgo2 hok2=> ?_;simp only[d0M,c0Y,List.cons_append,List.nil_append];refine go 5 ?_;refine e0K (d0A hgo2 hok2 gSp) (b0U rfl Hb.o rfl (o1V a t) gSp ?_);refine ns ?_;refine go 3 ?_;refine b0R rfl (decide_eq_false (by omega)) ?_;refine go 8 ?_;exact rR idh rfl
theorem t0E {n:Nat} {α S:Type} {o:Out α×S} (h:o.1≠ .big) (hb:1000000000≤n→o.1= .big):n<1000000000:=by
 rcases Nat.lt_or_ge n 1000000000 with h'|h'
 ·exact h'
 ·exact(h (hb h')).elim
theorem g1O {s:St} (k:Int) (h:s.log.length<1000000000):k0P k s=(.ok (),{s with log:=bk s.depth s.log (.refs k (a0E k s.refs)),refs:=b0C k s.refs}):=by
 simp[k0P,a0B,back,show ¬1000000000≤s.log.length by omega]
theorem e1C {s:St} (k:Int) (h:s.log.length<1000000000):f0D k s=(.ok (),{s with log:=bk s.depth s.log (.young k (a0E k s.young)),young:=b0C k s.young}):=by
 simp[f0D,a0B,back,show ¬1000000000≤s.log.length by omega]
theorem d2N {s:St} (l:List Int) (hl:l.length<1000000000) (h:s.log.length<1000000000):h0D l s=(.ok (),{s with log:=bk s.depth s.log (.gone s.gone),gone:=l}):=by
 simp[h0D,a0B,back,show ¬1000000000≤s.log.length by omega,show ¬1000000000≤l.length by omega]
theorem n1A {s:St} (st:c0P) (h:s.log.length<1000000000):back st s=(.ok (),{s with log:=bk s.depth s.log st}):=by
 simp[back,show ¬1000000000≤s.log.length by omega]
theorem t1T {s:St} {st:c0P} (h:(back st s).1≠ .big):s.log.length<1000000000:=by
 rcases Nat.lt_or_ge s.log.length 1000000000 with h'|h'
 ·exact h'
 ·exact(h (by simp[back,h'])).elim
theorem o1X {s:St} {k:Int} (h:(e0B k s).1≠ .big):inR k=true:=by
 cases hi:inR k with
 |true=>rfl
 |false=>exact(h (by simp[e0B,hi])).elim
theorem i2E {s:St} {k:Int} (hnb:(e0B k s).1≠ .big) (h1:d0K s k=1):
 inR k=true∧s.log.length<1000000000∧(bk s.depth s.log (.refs k (a0E k s.refs))).length<1000000000∧
 (let l2:=bk s.depth (bk s.depth s.log (.refs k (a0E k s.refs))) (.back k)
  if 0<h0E s k then s.gone.length+1<1000000000∧l2.length<1000000000∧(bk s.depth l2 (.young k (a0E k s.young))).length<1000000000∧
   e0B k s=(.ok true,{s with refs:=b0C k s.refs,g:=mvL s.fr s.g k 1 2,young:=b0C k s.young,gone:=s.gone++ [k],log:=bk s.depth (bk s.depth l2 (.young k (a0E k s.young))) (.gone s.gone)})
   else e0B k s=(.ok true,{s with refs:=b0C k s.refs,g:=mvL s.fr s.g k 1 2,log:=l2})):=by
 have hi:=o1X hnb;have e1:e0B k s=a0B (k0P k) (fun _=>a0B (fun s=>back (.back k) {s with g:=mvL s.fr s.g k 1 2}) fun _=>
  a0B (fun s=>if 0<h0E s k then a0B (f0D k) (fun _ s=>h0D (s.gone++ [k]) s) s else ret () s) fun _=>ret true) s:=by
  simp[e0B,hi,h1]
 rw[e1]at hnb;have a1:s.log.length<1000000000:=a2A (c0I hnb) fun h=>by simp[k0P,a0B,back,h]
 have b1:=o0S hnb (g1O k a1);have a2:=t1T (c0I b1);have b2:=o0S b1 (n1A _ a2);refine⟨hi,a1,a2,?_⟩;simp only;rw[e1,a0A (g1O k a1),a0A (m:=fun s=>back (.back k) {s with g:=mvL s.fr s.g k 1 2}) (n1A (s:= {s with refs:=b0C k s.refs,g:=mvL s.fr s.g k 1 2,log:=bk s.depth s.log (.refs k (a0E k s.refs))}) (.back k) a2)];have b3:=c0I b2;split
 ·rename_i hy;have hy':0<h0E {s with refs:=b0C k s.refs,g:=mvL s.fr s.g k 1 2,log:=bk s.depth (bk s.depth s.log (.refs k (a0E k s.refs))) (.back k)} k:=hy;rw[if_pos hy']at b3;have a3:=t0E (n:=(bk s.depth (bk s.depth s.log (.refs k (a0E k s.refs))) (.back k)).length) (c0I b3) fun h=>by simp[f0D,a0B,back,h]
  have b4:=o0S b3 (e1C k a3);have a4:=t0E (n:=(bk s.depth (bk s.depth (bk s.depth s.log (.refs k (a0E k s.refs))) (.back k)) (.young k (a0E k s.young))).length) b4 fun h=>by simp only[h0D];split<;>simp[a0B,back,h]
  have a5:=t0E (n:=(s.gone++ [k]).length) b4 fun h=>by rw[h0D,if_pos h]
  refine⟨by simpa using a5,a3,a4,?_⟩;have e:(fun s=>if 0<h0E s k then a0B (f0D k) (fun _ s=>h0D (s.gone++ [k]) s) s else ret () s) {s with refs:=b0C k s.refs,g:=mvL s.fr s.g k 1 2,log:=bk s.depth (bk s.depth s.log (.refs k (a0E k s.refs))) (.back k)} =
   (.ok (),{s with refs:=b0C k s.refs,g:=mvL s.fr s.g k 1 2,young:=b0C k s.young,gone:=s.gone++ [k],log:=bk s.depth (bk s.depth (bk s.depth (bk s.depth s.log (.refs k (a0E k s.refs))) (.back k)) (.young k (a0E k s.young))) (.gone s.gone)}):=by
   simp only[if_pos hy'];rw[a0A (e1C k a3),d2N _ a5 a4]
  rw[a0A e];rfl
 ·rename_i hy;have hy': ¬0<h0E {s with refs:=b0C k s.refs,g:=mvL s.fr s.g k 1 2,log:=bk s.depth (bk s.depth s.log (.refs k (a0E k s.refs))) (.back k)} k:=hy;have e:(fun s=>if 0<h0E s k then a0B (f0D k) (fun _ s=>h0D (s.gone++ [k]) s) s else ret () s) {s with refs:=b0C k s.refs,g:=mvL s.fr s.g k 1 2,log:=bk s.depth (bk s.depth s.log (.refs k (a0E k s.refs))) (.back k)} =
   (.ok (),{s with refs:=b0C k s.refs,g:=mvL s.fr s.g k 1 2,log:=bk s.depth (bk s.depth s.log (.refs k (a0E k s.refs))) (.back k)}):=by
   simp only[if_neg hy'];rfl
  rw[a0A e];rfl
theorem o1Y {gv:Value} {l:List Int} {gc:List (Nat×Obj)} {b cap:Nat} {cur:List Value} {k:Int} (hg:m0T gv l gc) (hk:inR k=true) (h1:l.length+1≤cap) (h2:cap≤maxLen) (h3:cur.length=cap*1) (h4:cur.take ((l.length+1)*1)=l.map a0J++ [.int .i64 k]):
 m0T (.slice (some ⟨b,0,none⟩) (l.length+1) cap) (l++ [k]) [(b,.cells cur.toArray 3 (0,0))]:=by
 refine⟨fun x hx=> ?_,.inr ⟨b,cap,cur,by simp,by simpa using h1,h2,by simpa using h3,by simpa [a0J] using h4,rfl⟩⟩;rcases List.mem_append.1 hx with hx|hx
 ·exact hg.1 x hx
 ·simp at hx;subst hx;exact hk
theorem d2O (W:World) (a:Ad) (s:St) (at_:Int) (h0:d0K s at_=0):a0F prog 206 #[ptr a.heap,.int .i64 at_] (RS W a s) (Ran fT (RS W a) (fun b=> .bool b) ((.err 6,s):Out Bool×St)):=by
 have h0':(a0E at_ s.refs).getD 0=0:=h0;refine en func206 ntmps206 fun R w0=> ?_;refine e0J gFd fun by_ gv gc o hg hok=> ?_;simp only[d0M,c0Y,List.cons_append,List.nil_append];refine go 2 ?_;refine bx fun b2=> ?_;refine bx fun b3=> ?_;refine go 10 ?_;refine b0X (f0P (ek:=a0J) (ev:=a0J) d0I.o i0T (tt fun _=>trivial) trivial Zr.o rfl rfl gFd f0J) ?_;refine go 16 ?_;refine d0R rfl (by simp[h0']) ?_;refine go 1 ?_;refine c0G rfl Hb.o rfl (c0S 6) gSp ?_;refine ns ?_;refine pn ?_;refine b0G (d0A hg hok gSp) (e0A idh (a0Z.back gSp) ⟨rfl,rfl⟩)
theorem i2F (W:World) (a:Ad) (s:St) (at_:Int) (h0: ¬d0K s at_=0) (h1: ¬d0K s at_=1) (hn:s.log.length<1000000000):
 a0F prog 206 #[ptr a.heap,.int .i64 at_] (RS W a s) (Ran fT (RS W a) (fun b=> .bool b) ((.ok false,{s with log:=bk s.depth s.log (.refs at_ (a0E at_ s.refs)),refs:=b0T at_ (m0L (d0K s at_-1)) s.refs}):Out Bool×St)):=by
 have h0': ¬(a0E at_ s.refs).getD 0=0:=h0;have h1': ¬(a0E at_ s.refs).getD 0=1:=h1;refine en func206 ntmps206 fun R w0=> ?_;refine e0J gFd fun by_ gv gc o hg hok=> ?_;simp only[d0M,c0Y,List.cons_append,List.nil_append];refine go 2 ?_;refine bx fun b2=> ?_;refine bx fun b3=> ?_;refine go 10 ?_;refine b0X (f0P (ek:=a0J) (ev:=a0J) d0I.o i0T (tt fun _=>trivial) trivial Zr.o rfl rfl gFd f0J) ?_;refine go 16 ?_;refine b0R rfl (by simp[h0']) ?_;refine go 6 ?_;refine b0R rfl (by simp[h1']) ?_;refine go 3 ?_;refine tl 11 ?_;refine go 10 ?_;refine b0X (j1I rfl rfl) ?_;refine go 1 ?_;rw[o1W];refine d0S rfl Hb.o rfl (p0Q a by_ o s.log s.depth a.refs s.refs at_ (m0L (d0K s at_-1)) (.refs at_ (a0E at_ s.refs)) hn (fun _ _ _ _=>⟨_,_,_,_,.inl rfl,rfl⟩)) gSp ?_;rintro e _;refine ns ?_;refine go 7 ?_;refine b0V (d0A (s:= {s with log:=bk s.depth s.log (.refs at_ (a0E at_ s.refs)),refs:=b0T at_ (m0L (d0K s at_-1)) s.refs}) hg hok gSp) (p0I rfl idh rfl rfl gSp)
end Go.Proofs.Q

/- Part of the proof; no statement of its own. -/
import Derived.Test.YtpinhnikemamjaaGreatDoorB08
import Derived.Test.YtpinhnikemamjaaGreatDoorB10
import Derived.Test.YtpinhnikemamjaaGreatDoorProg
import Derived.KernelRfl
import Derived.Test.YtpinhnikemamjaaGreatDoorB09
import Derived.Test.YtpinhnikemamjaaGreatDoorB06
set_option linter.all false
set_option maxRecDepth 4000
set_option maxHeartbeats 4000000
namespace Go.Proofs.Q
open Go.Sl Go.Sb
section
theorem p1U (W:World) (a:Ad) (t:St):RS W a (j0Y t)= [whole W,dkC a t.d,dkR a t.d,m0P (l0L t.d),stC a t.bits,mpC a,HL a (j0Y t)]:=by unfold j0Y;split<;>rfl
theorem v0I (s:St): ∀l,(e0R s l).d=s.d∧(e0R s l).bits=s.bits
 | []=>⟨rfl,rfl⟩
 |st::l=>by
  have:=v0I s l
  cases st<;>exact this
theorem p1V (m:Nat) (s:St):(d0T m s).d=s.d:=(v0I s _).1
theorem e1N (m:Nat) (s:St):(d0T m s).bits=s.bits:=(v0I s _).2
attribute [local irreducible] Sl.a0L Sl.OW Sl.CW Sl.OS Sl.OM Sl.OMf Sl.KM
theorem u1N {C:Type} (W:World) (a:Ad) (RC:C→a0E) (g:FuncId) (cap:List Value) (run:Run (St×C) Unit) (s:St) (c:C) (hb:f0J Tryz.prog g=true) (hnb:(n0H run (s,c)).1≠ .big)
 (hrun:(run ({s with depth:=s.depth+1},c)).1≠ .big→a0S Tryz.prog g cap.toArray (RS W a {s with depth:=s.depth+1} ++ [RC c]) (Ran fT (fun x=>RS W a x.1++ [RC x.2]) (fun _=> .tuple #[]) (run ({s with depth:=s.depth+1},c)))):
 a0S Tryz.prog 105 #[ptr a.log,.func (.func g) #[] cap.toArray] (RS W a s++ [RC c]) (Ran fT (fun x=>RS W a x.1++ [RC x.2]) (fun e=> .int .i64 e) (n0H run (s,c))):=by
 have hd:s.depth<1000000000:=by
  rcases Nat.lt_or_ge s.depth 1000000000 with h|h
  ·exact h
  ·exact(hnb (by simp[n0H,h])).elim
 have hd': ¬1000000000≤s.depth:=by omega
 cases ho:run ({s with depth:=s.depth+1},c)with
 |mk x y=>
 obtain⟨t,c'⟩:=y
 rw[ho]at hrun
 cases x with
 |big=>exact(hnb (by simp[n0H,hd',ho])).elim
 |ok x=>
  have ht:t.depth≠0:=fun h=>hnb (by simp[n0H,hd',ho,h])
  have htr:n0H run (s,c)=(.ok 0,(j0Y t,c')):=by simp[n0H,hd',ho,ht]
  have hg:=j2E g cap _ _ _ hb (hrun (by simp)).ran_ok
  refine x0T (args:= [_,_]) Tryz.func105 rfl Tryz.ntmps105 rfl (fun R w0=> ?_)
  simp only[a0N,List.cons_append,List.nil_append]
  refine f0F gFd fun by_ gv gc o hgo hok=> ?_
  refine w0A gFd fun v vals hlk hdp hv1=> ?_
  have hlen:=hlk.len
  refine go 11 ?_
  refine a0F (j0S Tsl.o rfl gFd) ?_
  refine go 14 ?_
  rw[show((s.depth:Nat):Int)+1=((s.depth+1:Nat):Int)from rfl]
  refine b0O (p0A hlk (depth:=s.depth+1) (by omega) gSp) ?_
  refine b0O (d0Q (s:= {s with depth:=s.depth+1}) hgo hok gSp) ?_
  refine go 4 ?_
  refine f1K (f:=147) (first:= []) (cap:= []) rfl rfl ?_
  refine go 5 ?_
  refine a0D rfl Hb.o rfl (hg) gSp ?_
  refine ns ?_
  refine go 19 ?_
  refine q0U (h1O (cap:= []) (args:= [ptr a.log]) (.inr rfl) (fun _ _ h=>h) rfl Hb.o (i1G a t (Nat.pos_of_ne_zero ht)) gSp (fun _ _=>⟨RS W a (j0Y t)++ [RC c'],_,by rw[p1U];(try rw[p1V,e1N]);simp only[List.cons_append,List.nil_append];exact gSp,by rw[htr];exact⟨rfl,rfl⟩⟩))
 |err e=>
  have ht: ¬(t.depth=0∨e=0):=fun h=>hnb (by simp[n0H,hd',ho,h])
  have htr:n0H run (s,c)=(.ok e,(j0Y (d0T s.log.length t),c')):=by simp[n0H,hd',ho,ht]
  have hg:=d2W g cap _ (RS W a t++ [RC c']) e hb (hrun (by simp))
  have hdu:(d0T s.log.length t).depth=t.depth:=(b1X t _).2
  refine x0T (args:= [_,_]) Tryz.func105 rfl Tryz.ntmps105 rfl (fun R w0=> ?_)
  simp only[a0N,List.cons_append,List.nil_append]
  refine f0F gFd fun by_ gv gc o hgo hok=> ?_
  refine w0A gFd fun v vals hlk hdp hv1=> ?_
  have hlen:=hlk.len
  refine go 11 ?_
  refine a0F (j0S Tsl.o rfl gFd) ?_
  refine go 14 ?_
  rw[show((s.depth:Nat):Int)+1=((s.depth+1:Nat):Int)from rfl]
  refine b0O (p0A hlk (depth:=s.depth+1) (by omega) gSp) ?_
  refine b0O (d0Q (s:= {s with depth:=s.depth+1}) hgo hok gSp) ?_
  refine go 4 ?_
  refine f1K (f:=147) (first:= []) (cap:= []) rfl rfl ?_
  refine go 5 ?_
  refine a0D rfl Hb.o rfl (hg) gSp ?_
  refine ns ?_
  refine go 10 ?_
  refine d0W rfl (by simp;exact fun h=>ht (.inr h)) ?_
  rw[←hlen]
  refine f0F gFd fun by2 gv2 gc2 o2 hgo2 hok2=> ?_
  refine go 3 ?_
  refine a0W rfl Hb.o rfl (o2J a by2 gv2 gc2 o2 t s.log.length hgo2 hok2) gSp ?_
  rintro⟨gv3,gc3,o3⟩ hx
  refine ns ?_
  refine go 1 ?_
  refine b0O (d0Q (s:=d0T s.log.length t) hx.1 hx.2 gSp) ?_
  refine go 7 ?_
  refine q0U (h1O (cap:= []) (args:= [ptr a.log]) (.inr rfl) (fun _ _ h=>h) rfl Hb.o (i1G a (d0T s.log.length t) (by rw[hdu];omega)) gSp (fun _ _=>⟨RS W a (j0Y (d0T s.log.length t))++ [RC c'],_,by rw[p1U];(try rw[p1V,e1N]);simp only[List.cons_append,List.nil_append];exact gSp,by rw[htr];exact⟨rfl,rfl⟩⟩))
end
section
abbrev dk3 (a:Ad) (d:Dk):List a0E:= [dkC a d,dkR a d,m0P (l0L d)]
def k0P (_:Unit):Value:= .tuple #[]
attribute [local irreducible] Sl.a0L Sl.OW Sl.CW Sl.OS Sl.OM Sl.OMf Sl.KM
theorem o0J (a:Ad) (d:Dk) (h:d.dead=false):a0S Tryz.prog 225 #[ptr a.disk] [dkC a d] (b0G (.tuple #[]) [dkC a d]):=by
 refine a0C Tryz.func225 rfl Tryz.ntmps225 rfl (fun R w0=> ?_)
 simp only[a0N,List.cons_append,List.nil_append]
 refine go 8 ?_
 refine c0C rfl h ?_
 refine go 1 ?_
 refine e0N rfl rfl gSp
theorem f1Q (a:Ad) (d:Dk) (h:d.dead=true):a0S Tryz.prog 225 #[ptr a.disk] [dkC a d] (fun en L=>en= .panicked (t0Y fT 12)∧L= [dkC a d]):=by
 refine a0C Tryz.func225 rfl Tryz.ntmps225 rfl (fun R w0=> ?_)
 simp only[a0N,List.cons_append,List.nil_append]
 refine go 8 ?_
 refine d0W rfl h ?_
 refine go 1 ?_
 refine c0M rfl Hb.o rfl (d0C 12) gSp ?_
 simp only[List.cons_append,List.nil_append]
 refine pn ?_
 refine e0H (fun _ _ h=>h) (b0L.back gSp) ⟨rfl,rfl⟩
theorem z0O (a:Ad) (d:Dk) (at_:Int) (h: ¬(at_<0∨(d.l.length:Int)≤at_)):a0S Tryz.prog 226 #[ptr a.disk,.int .i64 at_] [dkC a d,dkR a d] (b0G (.tuple #[]) [dkC a d,dkR a d]):=by
 refine a0C Tryz.func226 rfl Tryz.ntmps226 rfl (fun R w0=> ?_)
 simp only[a0N,List.cons_append,List.nil_append]
 refine l1X gFd fun p cap hv hcap hl=> ?_
 refine go 10 ?_
 refine g0M (j0S Tsl.o rfl gFd) (fun a w hh=>(b0E rfl rfl rfl hh).trans (wFF gF)) ?_
 refine go 6 ?_
 refine e0N rfl rfl gSp
theorem p1W (a:Ad) (d:Dk) (at_:Int) (h:at_<0∨(d.l.length:Int)≤at_):a0S Tryz.prog 226 #[ptr a.disk,.int .i64 at_] [dkC a d,dkR a d] (fun en L=>en= .panicked (t0Y fT 6)∧L= [dkC a d,dkR a d]):=by
 by_cases h0:at_<0
 ·refine a0C Tryz.func226 rfl Tryz.ntmps226 rfl (fun R w0=> ?_)
  simp only[a0N,List.cons_append,List.nil_append]
  refine go 17 ?_
  refine c0M rfl Hb.o rfl (d0C 6) gSp ?_
  simp only[List.cons_append,List.nil_append]
  refine pn ?_
  refine e0H (fun _ _ h=>h) (b0L.back gSp) ⟨rfl,rfl⟩
 ·refine a0C Tryz.func226 rfl Tryz.ntmps226 rfl (fun R w0=> ?_)
  simp only[a0N,List.cons_append,List.nil_append]
  refine go 10 ?_
  refine g0M (j0S Tsl.o rfl gFd) (fun a w hh=>(b0E rfl rfl rfl hh).trans (wFF gF)) ?_
  refine go 6 ?_
  refine c0M rfl Hb.o rfl (d0C 6) gSp ?_
  simp only[List.cons_append,List.nil_append]
  refine pn ?_
  refine e0H (fun _ _ h=>h) (b0L.back gSp) ⟨rfl,rfl⟩
theorem z1Z (a:Ad) (d:Dk) (hl:d.left<4611686018427387904):a0S Tryz.prog 285 #[ptr a.disk] [dkC a d] (Ran fT (fun d=> [dkC a d]) k0P (k0A d)):=by
 by_cases h1:d.dead=true
 ·have e:k0A d=(.err 12,d):=by simp[k0A,h1]
  rw[e]
  refine a0C Tryz.func285 rfl Tryz.ntmps285 rfl (fun R w0=> ?_)
  simp only[a0N,List.cons_append,List.nil_append]
  refine go 3 ?_
  refine c0M rfl Hb.o rfl (f1Q a d h1) gSp ?_
  simp only[List.cons_append,List.nil_append]
  refine pn ?_
  refine e0H (fun _ _ h=>h) (b0L.back gSp) ⟨rfl,rfl⟩
 ·have h1':d.dead=false:=by simpa using h1
  by_cases h2:d.armed=false
  ·have e:k0A d=(.ok (),d):=by simp[k0A,h1',h2]
   rw[e]
   refine a0C Tryz.func285 rfl Tryz.ntmps285 rfl (fun R w0=> ?_)
   simp only[a0N,List.cons_append,List.nil_append]
   refine go 3 ?_
   refine a0D rfl Hb.o rfl (o0J a d h1') gSp ?_
   refine ns ?_
   refine go 12 ?_
   refine d0W rfl (by rw[h2];rfl) ?_
   refine c0I rfl (fun _ _ h=>h) rfl rfl gSp
  ·have h2':d.armed=true:=by simpa using h2
   cases h3:d.left with
   |zero=>
    have e:k0A d=(.err 12,{d with dead:=true}):=by simp[k0A,h1',h2',h3]
    rw[e]
    refine a0C Tryz.func285 rfl Tryz.ntmps285 rfl (fun R w0=> ?_)
    simp only[a0N,List.cons_append,List.nil_append]
    refine go 3 ?_
    refine a0D rfl Hb.o rfl (o0J a d h1') gSp ?_
    refine ns ?_
    refine go 12 ?_
    refine c0C rfl (by rw[h2'];rfl) ?_
    refine go 12 ?_
    refine d0W rfl (by rw[h3];rfl) ?_
    refine go 9 ?_
    refine c0M rfl Hb.o rfl (d0C 12) gSp ?_
    simp only[List.cons_append,List.nil_append]
    refine pn ?_
    refine e0H (fun _ _ h=>h) (b0L.back gSp) ⟨rfl,rfl⟩
   |succ n=>
    have e:k0A d=(.ok (),{d with left:=n}):=by simp[k0A,h1',h2',h3]
    rw[e]
    refine a0C Tryz.func285 rfl Tryz.ntmps285 rfl (fun R w0=> ?_)
    simp only[a0N,List.cons_append,List.nil_append]
    refine go 3 ?_
    refine a0D rfl Hb.o rfl (o0J a d h1') gSp ?_
    refine ns ?_
    refine go 12 ?_
    refine c0C rfl (by rw[h2'];rfl) ?_
    refine go 12 ?_
    refine c0C rfl (by rw[h3];exact decide_eq_false (by omega)) ?_
    refine go 12 ?_
    rw[show((d.left:Nat):Int)-1=((n:Nat):Int) by omega]
    refine d0X rfl rfl rfl gSp
end
section
abbrev b0H (s:B):Value:= .string (bs s)
theorem e2C {l:List (B×B)} {i:Nat} {x:B×B} (h:l[i]? =some x):nth (l.flatMap t0A) (2*i)=some (b0H x.1)∧nth (l.flatMap t0A) (2*i+1)=some (b0H x.2):=by
 induction l generalizing i with
 |nil=>simp at h
 |cons y l ih=>
  cases i with
  |zero=>simp at h;subst h;exact⟨rfl,rfl⟩
  |succ i=>
   have:=ih (i:=i) (by simpa using h)
   simp only[List.flatMap_cons]
   exact this
theorem t0B (l:List (B×B)):(l.flatMap t0A).length=l.length*2:=by
 induction l with
 |nil=>rfl
 |cons x l ih=>simp only[List.flatMap_cons,List.length_append,ih,List.length_cons,t0A];simp;omega
theorem o2K (l:List (B×B)) (i:Nat) (x:B×B) (v:B) (h:l[i]? =some x):(l.flatMap t0A).set (2*i+1) (b0H v)=(l.set i (x.1,v)).flatMap t0A:=by
 induction l generalizing i with
 |nil=>simp at h
 |cons y l ih=>
  cases i with
  |zero=>simp at h;subst h;rfl
  |succ i=>
   have:=ih i (by simpa using h)
   simp only[List.flatMap_cons,List.set_cons_succ]
   show _=t0A y++_
   rw[←this]
   rfl
theorem a2A {d:Dk} {at_:Int} (h: ¬(at_<0∨(d.l.length:Int)≤at_)):d.l[at_.toNat]? =some (d.l.getD at_.toNat ([],[])):=by
 have:at_.toNat<d.l.length:=by omega
 simp[List.getD_eq_getElem?_getD,List.getElem?_eq_getElem this]
attribute [local irreducible] Sl.a0L Sl.OW Sl.CW Sl.OS Sl.OM Sl.OMf Sl.KM
theorem a2B (a:Ad) (d:Dk) (at_:Int):a0S Tryz.prog 187 #[ptr a.disk,.int .i64 at_] [dkC a d,dkR a d] (Ran fT (fun _=> [dkC a d,dkR a d]) b0H (m0X d at_,d)):=by
 by_cases h1:d.dead=true
 ·have e:m0X d at_= .err 12:=by simp[m0X,h1]
  rw[e]
  refine a0C Tryz.func187 rfl Tryz.ntmps187 rfl (fun R w0=> ?_)
  simp only[a0N,List.cons_append,List.nil_append]
  refine go 8 ?_
  refine c0M rfl Hb.o rfl (f1Q a d h1) gSp ?_
  simp only[List.cons_append,List.nil_append]
  refine pn ?_
  refine e0H (fun _ _ h=>h) (b0L.back gSp) ⟨rfl,rfl⟩
 ·have h1':d.dead=false:=by simpa using h1
  by_cases h2:at_<0∨(d.l.length:Int)≤at_
  ·have e:m0X d at_= .err 6:=by simp[m0X,h1',h2]
   rw[e]
   refine a0C Tryz.func187 rfl Tryz.ntmps187 rfl (fun R w0=> ?_)
   simp only[a0N,List.cons_append,List.nil_append]
   refine go 8 ?_
   refine a0D rfl Hb.o rfl (o0J a d h1') gSp ?_
   refine ns ?_
   refine go 6 ?_
   refine c0M rfl Hb.o rfl (p1W a d at_ h2) gSp ?_
   simp only[List.cons_append,List.nil_append]
   refine pn ?_
   refine e0H (fun _ _ h=>h) (b0L.back gSp) ⟨rfl,rfl⟩
  ·have e:m0X d at_= .ok (d.l.getD at_.toNat ([],[])).2:=by simp[m0X,h1',h2]
   have hat:=e2C (a2A h2)
   rw[e]
   refine a0C Tryz.func187 rfl Tryz.ntmps187 rfl (fun R w0=> ?_)
   simp only[a0N,List.cons_append,List.nil_append]
   refine l1X gFd fun p cap hv hcap hl=> ?_
   refine go 8 ?_
   refine a0D rfl Hb.o rfl (o0J a d h1') gSp ?_
   refine ns ?_
   refine go 6 ?_
   refine a0D rfl Hb.o rfl (z0O a d at_ h2) gSp ?_
   refine ns ?_
   refine go 3 ?_
   refine n0U gFd (by omega) fun b cap hv' hcap=> ?_
   simp only[dkC,dkR]
   rw[hv']
   refine go 8 ?_
   refine a0F (e0G Sc.o rfl gFd (by rw[show 0+at_.toNat*2+1=2*at_.toNat+1 by omega];exact hat.2)) ?_
   refine go 3 ?_
   rw[←hv']
   refine c0I rfl (fun _ _ h=>h) rfl rfl gSp
end
end Go.Proofs.Q
namespace Go.Proofs.Q
section
open Go
end
end Go.Proofs.Q
namespace Go.Proofs.Q
open Go.Sl Go.Sb
section
def stl (x:Nat):Nat:=if x=2 then 0 else x
def i0G (l:List Nat) (i:Nat):List Nat:=(l.take i).map stl++l.drop i
theorem w0C (l:List Nat) (i:Nat) (h:i≤l.length):(i0G l i).length=l.length:=by simp[i0G];omega
theorem b1Y (l:List Nat) (i:Nat) (h:i<l.length):(i0G l i)[i]? =some l[i]:=by
 unfold i0G
 rw[List.getElem?_append_right (by simp;omega)]
 simp[Nat.min_eq_left (Nat.le_of_lt h),List.getElem?_eq_getElem h]
theorem b1B (l:List Nat) (i:Nat) (h:i<l.length):(i0G l i).set i (stl l[i])=i0G l (i+1):=by
 unfold i0G
 rw[List.set_append_right _ _ (by simp;omega)]
 have h1:i- ((l.take i).map stl).length=0:=by simp;omega
 rw[h1,List.drop_eq_getElem_cons h,List.set_cons_zero]
 simp only[List.take_succ,List.getElem?_eq_getElem h,Option.toList_some,List.map_append,List.map_cons,List.map_nil,List.append_assoc,List.cons_append,List.nil_append]
theorem o1D (l:List Nat) (i:Nat) (h:i<l.length) (h2: ¬l[i]=2):i0G l i=i0G l (i+1):=by
 rw[←b1B l i h,show stl l[i]=l[i] by simp[stl,h2]]
 apply List.ext_getElem?
 intro k
 rw[List.getElem?_set]
 split
 ·rename_i hk;subst hk
  rw[b1Y l _ h];simp[w0C l _ (Nat.le_of_lt h),h]
 ·rfl
abbrev gmN (b bl fr n:Nat) (l:List Nat):List a0E:= [pts b (.cells #[.int .i64 fr,.slice (some ⟨bl,0,none⟩) n n,.int .i64 (l.count 0),.int .i64 (l.count 1),.int .i64 (l.count 2)] 192 (0,0)),pts bl (.cells (l.map gst).toArray 3 (0,0))]
theorem gm_N {b bl fr:Nat} {l:List Nat} {n:Nat} (h:l.length=n):gm b bl fr l=gmN b bl fr n l:=by subst h;rfl
attribute [local irreducible] Sl.a0L Sl.OW Sl.CW Sl.OS Sl.OM Sl.OMf Sl.KM
theorem p1X (b bl fr:Nat) (l:List Nat) (hfr:fr≤5000) (hl:l.length≤5000) (h3: ∀x∈l,x<3):
 a0S Tryz.prog 104 #[.pointer (some ⟨b,0,none⟩)] (gm b bl fr l) (b0G (.tuple #[]) (gm b bl fr (f0O l))):=by
 refine a0C Tryz.func104 rfl Tryz.ntmps104 rfl (fun R w0=> ?_)
 simp only[a0N,List.cons_append,List.nil_append,gm,l0S]
 refine go 11 ?_
 refine h1G (L':=gmN b bl fr l.length (i0G l 0)++ [R]) (by simp[i0G,gmN]) ?_
 simp only[gmN,List.cons_append,List.nil_append]
 refine b0S (X:= {i:Nat // i≤l.length}) (fun x=> [(0,.pointer (some ⟨b,0,none⟩)),(7,.slice (some ⟨bl,0,none⟩) l.length l.length),(8,.int .i64 l.length),(9,.int .i64 x.1)]) (fun x=>gmN b bl fr l.length (i0G l x.1)++ [R]) (fun x=>l.length-x.1) ⟨0,by omega⟩ gSu gSp ?_
 rintro⟨i,hi⟩ m0 hm0
 try simp only at hm0
 try dsimp only
 have hsl:=w0C l i hi
 simp only[gmN,List.cons_append,List.nil_append]
 refine go 6 ?_
 refine b0C rfl (fun hb10=> ?_) (fun hb10=> ?_)
 ·have hil:i<l.length:=by have:=of_decide_eq_true hb10;omega
  have i0E:=b1Y l i hil
  have hlt:=h3 _ (List.getElem_mem hil)
  refine go 8 ?_
  refine a0F (b0T Sc.o rfl (i1B i0E (by omega))) ?_
  refine go 10 ?_
  refine b0C rfl (fun hb15=> ?_) (fun hb15=> ?_)
  ·have h2:l[i]=2:=by have:=of_decide_eq_true hb15;omega
   have hset:=b1P b bl fr i l[i] 0 (i0G l i) _ rfl i0E hlt (by omega) hfr (by omega)
   have hs2:=b1B l i hil
   rw[show stl l[i]=0 by simp[stl,h2]]at hs2
   rw[hs2,gm_N hsl,gm_N (w0C l (i+1) hil)]at hset
   refine go 8 ?_
   refine a0D rfl Hb.o rfl (hset) gSp ?_
   refine ns ?_
   refine go 6 ?_
   refine b0Q (fun _ _ h=>h) (⟨i+1,hil⟩) (by first|omega| (simp only;omega)) gSu gSp
  ·have h2: ¬l[i]=2:=by have:=of_decide_eq_false hb15;omega
   have hsm:=o1D l i hil h2
   rw[hsm]
   refine go 6 ?_
   refine b0Q (fun _ _ h=>h) (⟨i+1,hil⟩) (by first|omega| (simp only;omega)) gSu gSp
 ·have hil:i=l.length:=by have:=of_decide_eq_false hb10;omega
  subst hil
  have he:i0G l l.length=f0O l:=by simp[i0G,f0O];intro x _;rfl
  rw[he]
  have hse:(f0O l).length=l.length:=by simp[f0O]
  refine go 1 ?_
  rw[hse]
  refine e0N rfl rfl gSp
end
section
theorem e0A {a:Ad} {by_:Nat} {gv:Value} {gc:List (Nat×Obj)} {s:St} :TT a by_ gv gc s= [h0N a by_ gv s.keep,b0R (h0G gc),c0T by_ a0V a0V s.young,c0T a.refs a0V a0V s.refs,c0T a.ix e0J a0V s.index,c0T a.vols j0V e0K s.vols,q0Z a s.next s.epoch,
 pts a.gr (.cells (l0S s.fr a.grl s.g).toArray 192 (0,0)),pts a.grl (.cells (s.g.map gst).toArray 3 (0,0))]:=rfl
attribute [local irreducible] Sl.a0L Sl.OW Sl.CW Sl.OS Sl.OM Sl.OMf Sl.KM
theorem a2C (a:Ad) (s:St):a0S Tryz.prog 17 #[ptr a.heap] [HL a s] (b0G (.int .i64 (b0U s)) [HL a s]):=by
 refine a0C Tryz.func17 rfl Tryz.ntmps17 rfl (fun R w0=> ?_)
 simp only[a0N,List.cons_append,List.nil_append]
 refine f0F gFd fun by_ gv gc o hg hok=> ?_
 simp only[e0A,d0I,List.cons_append,List.nil_append]
 refine go 11 ?_
 refine a0D rfl Hb.o rfl (u0R a.gr a.grl s.fr s.g) gSp ?_
 refine ns ?_
 refine go 3 ?_
 refine c0S (d0Q hg hok gSp) (b0V (fun _ _ h=>h) rfl rfl gSp)
theorem m1C (a:Ad) (s:St):a0S Tryz.prog 106 #[ptr a.log] [HL a s] (b0G (.int .i64 s.depth) [HL a s]):=by
 refine a0C Tryz.func106 rfl Tryz.ntmps106 rfl (fun R w0=> ?_)
 simp only[a0N,List.cons_append,List.nil_append]
 refine f0F gFd fun by_ gv gc o hg hok=> ?_
 refine w0A gFd fun v vals hlk hdp hv1=> ?_
 refine go 14 ?_
 refine c0S (p0A hlk hdp gSp) (c0S (d0Q hg hok gSp) (b0V (fun _ _ h=>h) rfl rfl gSp))
theorem b1Z (W:World) (a:Ad) (s:St) (at_:Int):a0S Tryz.prog 152 #[ptr a.heap,.int .i64 at_] (RS W a s) (Ran fT (RS W a) b0H (i0E at_ s)):=by
 by_cases h0:d0U s at_=0
 ·have e:i0E at_ s=(.err 6,s):=by simp[i0E,h0]
  rw[e]
  have h0':(a0H at_ s.refs).getD 0=0:=h0
  refine a0C Tryz.func152 rfl Tryz.ntmps152 rfl (fun R w0=> ?_)
  simp only[a0N,List.cons_append,List.nil_append]
  refine f0F gFd fun by_ gv gc o hg hok=> ?_
  simp only[e0A,d0I,List.cons_append,List.nil_append]
  refine go 13 ?_
  refine a0F (k0G (ek:=a0V) (ev:=a0V) e0T.o m0R (tt fun _=>trivial) trivial Zr.o rfl rfl gFd i0S) ?_
  refine go 3 ?_
  refine d0W rfl (decide_eq_true h0') ?_
  refine go 1 ?_
  refine c0M rfl Hb.o rfl (d0C 6) gSp ?_
  simp only[List.cons_append,List.nil_append]
  refine pn ?_
  refine b0O (d0Q hg hok gSp) (e0H (fun _ _ h=>h) (b0L.back gSp) ⟨rfl,rfl⟩)
 ·have e:i0E at_ s=(m0X s.d at_,s):=by simp[i0E,h0]
  have h0': ¬(a0H at_ s.refs).getD 0=0:=h0
  rw[e]
  have hr:=a2B a s.d at_
  cases hd:m0X s.d at_ with
  |big=>simp[m0X]at hd;split at hd<;>(try split at hd)<;>cases hd
  |ok b=>
   rw[hd]at hr
   refine a0C Tryz.func152 rfl Tryz.ntmps152 rfl (fun R w0=> ?_)
   simp only[a0N,List.cons_append,List.nil_append]
   refine f0F gFd fun by_ gv gc o hg hok=> ?_
   simp only[e0A,d0I,List.cons_append,List.nil_append]
   refine go 13 ?_
   refine a0F (k0G (ek:=a0V) (ev:=a0V) e0T.o m0R (tt fun _=>trivial) trivial Zr.o rfl rfl gFd i0S) ?_
   refine go 3 ?_
   refine c0C rfl (decide_eq_false h0') ?_
   refine go 9 ?_
   refine a0D rfl Hb.o rfl (hr.ran_ok) gSp ?_
   refine ns ?_
   refine go 3 ?_
   refine c0S (d0Q hg hok gSp) (c0I rfl (fun _ _ h=>h) rfl rfl gSp)
  |err e'=>
   rw[hd]at hr
   refine a0C Tryz.func152 rfl Tryz.ntmps152 rfl (fun R w0=> ?_)
   simp only[a0N,List.cons_append,List.nil_append]
   refine f0F gFd fun by_ gv gc o hg hok=> ?_
   simp only[e0A,d0I,List.cons_append,List.nil_append]
   refine go 13 ?_
   refine a0F (k0G (ek:=a0V) (ev:=a0V) e0T.o m0R (tt fun _=>trivial) trivial Zr.o rfl rfl gFd i0S) ?_
   refine go 3 ?_
   refine c0C rfl (decide_eq_false h0') ?_
   refine go 9 ?_
   refine c0M rfl Hb.o rfl (hr) gSp ?_
   simp only[List.cons_append,List.nil_append]
   refine pn ?_
   refine b0O (d0Q hg hok gSp) (e0H (fun _ _ h=>h) (b0L.back gSp) ⟨rfl,rfl⟩)
theorem e2D {s:St} (hok:n0I s):n0I {s with g:=f0O s.g,young:= []} :=⟨hok.1,by simpa [f0O] using hok.2.1,fun x hx=>by
 obtain⟨y,hy,rfl⟩:=List.mem_map.1 hx
 have:=hok.2.2.1 y hy
 split<;>omega,hok.2.2.2⟩
theorem p1Y (a:Ad) (s:St) (h0:s.depth=0∧s.log= []):a0S Tryz.prog 48 #[ptr a.heap] [HL a s] (b0G (.tuple #[]) [HL a {s with g:=f0O s.g,young:= []}]):=by
 refine a0C Tryz.func48 rfl Tryz.ntmps48 rfl (fun R w0=> ?_)
 simp only[a0N,List.cons_append,List.nil_append]
 refine f0F gFd fun by_ gv gc o hg hok=> ?_
 refine w0A gFd fun v vals hlk hdp hv1=> ?_
 simp only[e0A,d0I,List.cons_append,List.nil_append]
 have hv0:vals= []:=by have:=hlk.len;rw[h0.2]at this;exact List.eq_nil_of_length_eq_zero this.symm
 subst hv0
 refine go 6 ?_
 refine a0D rfl Hb.o rfl (p1X a.gr a.grl s.fr s.g hok.1 hok.2.1 hok.2.2.1) gSp ?_
 refine ns ?_
 refine go 2 ?_
 skip
 refine go 2 ?_
 refine(p0Z (fun b8=> ?_))
 refine go 4 ?_
 refine b0O (p0A (a:=a) (by_:=b8) (o:=o) (log:=s.log) (depth:=s.depth) (v:=v) (vals:= []) (by rw[h0.2];exact⟨by simp,[],o,List.Perm.refl _,rfl,rfl,by simp⟩) hdp gSp) ?_
 refine b0O (fun w h=>s0V a0V a0V ((show Fnd _ (pts b8 _) _ from gFd).sat h)) ?_
 refine b0O (d0Q (s:= {s with g:=f0O s.g,young:= []}) (by_:=b8) hg (e2D hok) gSp) ?_
 refine e0N rfl rfl gSp
end
section
theorem m1D (x:Int):IntKind.i64.wrap x=m0D x:=by rw[IntKind.wrap_i64];rfl
theorem x0X {s:St} {k v:Int} (h:(g0S k v s).1≠ .big):s.log.length<1000000000:=by
 rcases Nat.lt_or_ge s.log.length 1000000000 with h'|h'
 ·exact h'
 ·exact(h (by simp[g0S,a0B,back,h'])).elim
theorem u0S {s:St} (k v:Int) (h:s.log.length<1000000000):g0S k v s=(.ok (),{s with log:=bk s.depth s.log (.refs k (a0H k s.refs)),refs:=c0F k v s.refs}):=by
 simp[g0S,a0B,back,show ¬1000000000≤s.log.length by omega]
theorem u1O {s:St} (k v:Int) (h:s.log.length<1000000000):l0H k v s=(.ok (),{s with log:=bk s.depth s.log (.young k (a0H k s.young)),young:=c0F k v s.young}):=by
 simp[l0H,a0B,back,show ¬1000000000≤s.log.length by omega]
theorem a2D {s:St} (v:Int) (h:s.log.length<1000000000):v0D v s=(.ok (),{s with log:=bk s.depth s.log (.keep s.keep),keep:=v}):=by
 simp[v0D,a0B,back,show ¬1000000000≤s.log.length by omega]
theorem w1Q {s:St} {α:Type} {o:Out α×St} (h:o.1≠ .big) (hb:1000000000≤s.log.length→o.1= .big):s.log.length<1000000000:=by
 rcases Nat.lt_or_ge s.log.length 1000000000 with h'|h'
 ·exact h'
 ·exact(h (hb h')).elim
attribute [local irreducible] Sl.a0L Sl.OW Sl.CW Sl.OS Sl.OM Sl.OMf Sl.KM
theorem z0P (W:World) (a:Ad) (s:St) (at_:Int) (hnb:(j0X at_ s).1≠ .big):a0S Tryz.prog 201 #[ptr a.heap,.int .i64 at_] (RS W a s) (Ran fT (RS W a) k0P (j0X at_ s)):=by
 by_cases h0:d0U s at_=0
 ·have e:j0X at_ s=(.err 6,s):=by simp[j0X,h0]
  rw[e]
  have h0':(a0H at_ s.refs).getD 0=0:=h0
  refine a0C Tryz.func201 rfl Tryz.ntmps201 rfl (fun R w0=> ?_)
  simp only[a0N,List.cons_append,List.nil_append]
  refine f0F gFd fun by_ gv gc o hg hok=> ?_
  simp only[e0A,d0I,List.cons_append,List.nil_append]
  refine go 8 ?_
  refine a0F (k0G (ek:=a0V) (ev:=a0V) e0T.o m0R (tt fun _=>trivial) trivial Zr.o rfl rfl gFd i0S) ?_
  refine go 3 ?_
  refine d0W rfl (decide_eq_true h0') ?_
  refine go 1 ?_
  refine c0M rfl Hb.o rfl (d0C 6) gSp ?_
  simp only[List.cons_append,List.nil_append]
  refine pn ?_
  refine b0O (d0Q hg hok gSp) (e0H (fun _ _ h=>h) (b0L.back gSp) ⟨rfl,rfl⟩)
 ·have e1:j0X at_ s=g0S at_ (m0D (d0U s at_+1)) s:=by simp[j0X,h0]
  rw[e1]at hnb
  have hn:=x0X hnb
  rw[u0S _ _ hn]at e1
  rw[e1]
  have h0': ¬(a0H at_ s.refs).getD 0=0:=h0
  refine a0C Tryz.func201 rfl Tryz.ntmps201 rfl (fun R w0=> ?_)
  simp only[a0N,List.cons_append,List.nil_append]
  refine f0F gFd fun by_ gv gc o hg hok=> ?_
  simp only[e0A,d0I,List.cons_append,List.nil_append]
  refine go 8 ?_
  refine a0F (k0G (ek:=a0V) (ev:=a0V) e0T.o m0R (tt fun _=>trivial) trivial Zr.o rfl rfl gFd i0S) ?_
  refine go 3 ?_
  refine c0C rfl (decide_eq_false h0') ?_
  refine go 2 ?_
  refine d0S 16 Fol.o (by kernel_rfl) ?_
  simp only[List.take_succ_cons,List.take_zero,List.drop_succ_cons,List.drop_zero]
  refine go 14 ?_
  refine c0K (k0G (ek:=a0V) (ev:=a0V) e0T.o m0R (tt fun _=>trivial) trivial Zr.o rfl rfl gFd i0S) ?_
  refine c0K (g1Z rfl rfl) ?_
  refine go 1 ?_
  rw[m1D]
  refine a0W rfl Hb.o rfl (p0B a by_ o s.log s.depth a.refs s.refs at_ (m0D (d0U s at_+1)) (.refs at_ (a0H at_ s.refs)) hn (fun _ _ _ _=>⟨_,_,_,_,.inl rfl,rfl⟩)) gSp ?_
  rintro e _
  refine ns ?_
  refine go 1 ?_
  refine b0O (d0Q (s:= {s with log:=bk s.depth s.log (.refs at_ (a0H at_ s.refs)),refs:=c0F at_ (m0D (d0U s at_+1)) s.refs}) hg hok gSp) (d0X rfl rfl rfl gSp)
theorem i1H (W:World) (a:Ad) (s:St) (n:Int) (hnb:(n0O n s).1≠ .big):a0S Tryz.prog 117 #[ptr a.heap,.int .i64 n] (RS W a s) (Ran fT (RS W a) k0P (n0O n s)):=by
 have hn:s.log.length<1000000000:=w1Q hnb fun h=>by simp[n0O,v0D,a0B,back,h]
 rw[show n0O n s=_ from a2D (max n 0) hn]
 refine a0C Tryz.func117 rfl Tryz.ntmps117 rfl (fun R w0=> ?_)
 simp only[a0N,List.cons_append,List.nil_append]
 refine f0F gFd fun by_ gv gc o hg hok=> ?_
 simp only[e0A,d0I,List.cons_append,List.nil_append]
 refine d0S 9 Fol.o (by kernel_rfl) ?_
 simp only[List.take_succ_cons,List.take_zero,List.drop_succ_cons,List.drop_zero]
 refine go 10 ?_
 refine a0W rfl Hb.o rfl (u1I a by_ o s.log s.depth gv s.keep (max n 0) hn) gSp ?_
 rintro e _
 refine ns ?_
 refine go 1 ?_
 refine b0O (d0Q (s:= {s with log:=bk s.depth s.log (.keep s.keep),keep:=max n 0}) hg hok gSp) (d0X rfl rfl rfl gSp)
end
section
def d1O (fr:Nat) (g:List Nat) (x:Int):List Nat:=mvL fr (mvL fr g x 2 1) x 1 0
def gAt (s:St) (i:Nat):List Nat:=(s.gone.take i).foldl (d1O s.fr) s.g
theorem j2M (s:St) (i:Nat) (h:i<s.gone.length):gAt s (i+1)=d1O s.fr (gAt s i) s.gone[i]:=by
 unfold gAt;rw[List.take_succ,List.getElem?_eq_getElem h,List.foldl_append];rfl
theorem e2E (s:St) (hok:n0I s) (i:Nat):(gAt s i).length=s.g.length∧ ∀x∈gAt s i,x<3:=by
 unfold gAt
 generalize s.gone.take i=l
 have key: ∀(l:List Int) (g:List Nat),(∀x∈g,x<3)→(l.foldl (d1O s.fr) g).length=g.length∧ ∀x∈l.foldl (d1O s.fr) g,x<3:=by
  intro l
  induction l with
  |nil=>intro g h;exact⟨rfl,h⟩
  |cons y l ih=>
   intro g h
   have:=ih (d1O s.fr g y) (v0H (by omega) (v0H (by omega) h))
   exact⟨by rw[List.foldl_cons,this.1];simp[d1O,v0G],this.2⟩
 exact key l s.g hok.2.2.1
theorem u1P (s:St):s0U s= {s with g:=gAt s s.gone.length,gone:= []} :=by simp[s0U,gAt];rfl
theorem c0D {w:World} {M:List a0E} (h:Sat w M):Sat w (b0R []::M):=c0A.2 h
theorem o2L {cur:List Value} {l:List Int} (h:cur.take l.length=l.map a0V) {i k:Nat} (hi:i<l.length) (hk:k=i):nth cur k=some (.int .i64 l[i]):=by
 subst hk
 rw[e0L]
 have:(cur.take l.length)[k]? =some (a0V l[k]):=by rw[h];simp[hi]
 rw[List.getElem?_take_of_lt hi]at this
 exact this
attribute [local irreducible] Sl.a0L Sl.OW Sl.CW Sl.OS Sl.OM Sl.OMf Sl.KM
theorem k1J (a:Ad) (s:St):a0S Tryz.prog 107 #[ptr a.heap] [HL a s] (b0G (.tuple #[]) [HL a (s0U s)]):=by
 rw[u1P]
 refine a0C Tryz.func107 rfl Tryz.ntmps107 rfl (fun R w0=> ?_)
 simp only[a0N,List.cons_append,List.nil_append]
 refine f0F gFd fun by_ gv gc o hg hok=> ?_
 simp only[e0A,d0I,List.cons_append,List.nil_append]
 obtain⟨hgr,⟨hg0,rfl,rfl⟩| ⟨g,cap,cur,rfl,hcap,hmx,hcl,htk,rfl⟩⟩:=hg
 ·refine go 12 ?_
  refine b0S (X:=Unit) (fun _=> [(0,ptr a.heap),(7,.slice none 0 0),(8,.int .i64 0),(9,.int .i64 0)]) (fun _=> [h0N a by_ (.slice none 0 0) s.keep,e0O a by_ o s.log s.depth,b0R (h0G []),c0T by_ a0V a0V s.young,c0T a.refs a0V a0V s.refs,c0T a.ix e0J a0V s.index,c0T a.vols j0V e0K s.vols,q0Z a s.next s.epoch,pts a.gr (.cells (l0S s.fr a.grl s.g).toArray 192 (0,0)),pts a.grl (.cells (s.g.map gst).toArray 3 (0,0)),R]) (fun _=>0) () gSu gSp ?_
  rintro x m0 hm0
  try simp only at hm0
  try dsimp only
  skip
  refine go 15 ?_
  rw[show gAt s s.gone.length=s.g by simp[gAt,hg0]]
  refine b0O (d0Q (s:= {s with g:=s.g,gone:= []}) (gv:= .slice none 0 0) (gc:= []) ⟨by simp,.inl ⟨rfl,rfl,rfl⟩⟩ hok gSp) (e0N rfl rfl gSp)
 ·try simp only[h0G,List.map_cons,List.map_nil]
  refine c0S (L':=pts g (.cells cur.toArray 3 (0,0)):: [h0N a by_ (.slice (some ⟨g,0,none⟩) s.gone.length cap) s.keep,e0O a by_ o s.log s.depth,c0T by_ a0V a0V s.young,c0T a.refs a0V a0V s.refs,c0T a.ix e0J a0V s.index,c0T a.vols j0V e0K s.vols,q0Z a s.next s.epoch,pts a.gr (.cells (l0S s.fr a.grl (gAt s 0)).toArray 192 (0,0)),pts a.grl (.cells ((gAt s 0).map gst).toArray 3 (0,0)),R]) (fun w h=> ?_) ?_
  ·have h1:=c0A.1 ((show Fnd _ (b0R _) _ from gFd).sat h)
   exact h1.re gSp
  have hgl:=fun i=>(e2E s hok i).1
  have hm2:s.gone.length≤9223372036854775807:=by simp only[maxLen]at hmx;omega
  try simp only[d0I]
  refine go 12 ?_
  refine b0S (X:= {i:Nat // i≤s.gone.length}) (fun x=> [(0,ptr a.heap),(7,.slice (some ⟨g,0,none⟩) s.gone.length cap),(8,.int .i64 s.gone.length),(9,.int .i64 x.1)]) (fun x=> [pts g (.cells cur.toArray 3 (0,0)),h0N a by_ (.slice (some ⟨g,0,none⟩) s.gone.length cap) s.keep,e0O a by_ o s.log s.depth,c0T by_ a0V a0V s.young,c0T a.refs a0V a0V s.refs,c0T a.ix e0J a0V s.index,c0T a.vols j0V e0K s.vols,q0Z a s.next s.epoch]++gm a.gr a.grl s.fr (gAt s x.1)++ [R]) (fun x=>s.gone.length-x.1) ⟨0,by omega⟩ gSu gSp ?_
  rintro⟨i,hi⟩ m0 hm0
  try simp only at hm0
  try dsimp only
  simp only[d0I,List.cons_append,List.nil_append]
  refine go 6 ?_
  refine b0C rfl (fun hb10=> ?_) (fun hb10=> ?_)
  ·have hil:i<s.gone.length:=by have:=of_decide_eq_true hb10;omega
   have hlt:(gAt s i).length≤5000:=by rw[hgl];exact hok.2.1
   refine go 7 ?_
   refine a0F (b0T Sc.o rfl (o2L htk hil (by omega))) ?_
   refine go 10 ?_
   refine a0D rfl Hb.o rfl (i1D a.gr a.grl s.fr (gAt s i) s.gone[i] (w0B (hgr _ (List.getElem_mem hil))) hok.1 hlt) gSp ?_
   refine ns ?_
   refine go 8 ?_
   refine a0D rfl Hb.o rfl (i1C a.gr a.grl s.fr (mvL s.fr (gAt s i) s.gone[i] 2 1) s.gone[i] (w0B (hgr _ (List.getElem_mem hil))) hok.1 (by rw[v0G];exact hlt)) gSp ?_
   refine ns ?_
   refine go 1 ?_
   rw[show mvL s.fr (mvL s.fr (gAt s i) s.gone[i] 2 1) s.gone[i] 1 0=gAt s (i+1)from(j2M s i hil).symm]
   refine go 5 ?_
   refine b0Q (fun _ _ h=>h) (⟨i+1,hil⟩) (by first|omega| (simp only;omega)) gSu gSp
  ·have hil:i=s.gone.length:=by have:=of_decide_eq_false hb10;omega
   subst hil
   have hok':n0I {s with g:=gAt s s.gone.length,gone:= []} :=⟨hok.1,by show(gAt s _).length≤_;rw[hgl];exact hok.2.1,(e2E s hok _).2,hok.2.2.2⟩
   refine go 8 ?_
   refine b0O (fun w h=>c0D h) (b0O (d0Q (s:= {s with g:=gAt s s.gone.length,gone:= []}) (by_:=by_) (o:=o) (gv:= .slice none 0 0) (gc:= []) ⟨by simp,.inl ⟨rfl,rfl,rfl⟩⟩ hok' gSp) (e0N rfl rfl gSp))
end
section
theorem i1I {C:Type} (run:Run (St×C) Unit) (x:St×C) (e:Int) (y:St×C):n0H run x≠(.err e,y):=by
 unfold n0H
 split
 ·intro h;cases h
 ·split
  ·split<;>(intro h;cases h)
  ·split<;>(intro h;cases h)
  ·intro h;cases h
attribute [local irreducible] Sl.a0L Sl.OW Sl.CW Sl.OS Sl.OM Sl.OMf Sl.KM
theorem w0D {C:Type} (W:World) (a:Ad) (RC:C→a0E) (g:FuncId) (cap:List Value) (run:Run (St×C) Unit) (s:St) (c:C) (hb:f0J Tryz.prog g=true) (hnb:(n0T run (s,c)).1≠ .big)
 (hrun:(run ({s with depth:=s.depth+1},c)).1≠ .big→a0S Tryz.prog g cap.toArray (RS W a {s with depth:=s.depth+1} ++ [RC c]) (Ran fT (fun x=>RS W a x.1++ [RC x.2]) (fun _=> .tuple #[]) (run ({s with depth:=s.depth+1},c)))):
 a0S Tryz.prog 50 #[ptr a.heap,.func (.func g) #[] cap.toArray] (RS W a s++ [RC c]) (Ran fT (fun x=>RS W a x.1++ [RC x.2]) (fun e=> .int .i64 e) (n0T run (s,c))):=by
 have hl:=u1N W a RC g cap run s c hb (c0R hnb) hrun
 cases ho:n0H run (s,c)with
 |mk x y=>
 obtain⟨t,c'⟩:=y
 rw[ho]at hl
 cases x with
 |big=>exact(c0R hnb (by rw[ho])).elim
 |err e=>exact(i1I _ _ _ _ ho).elim
 |ok e=>
  have hl':=hl.ran_ok
  by_cases h0:t.depth=0
  ·have htr:n0T run (s,c)=(.ok e,(s0U t,c')):=by simp[n0T,a0B,ho,h0]
   rw[htr]
   refine a0C Tryz.func50 rfl Tryz.ntmps50 rfl (fun R w0=> ?_)
   simp only[a0N,List.cons_append,List.nil_append]
   refine f0F gFd fun by_ gv gc o hgo hok=> ?_
   simp only[e0A,d0I,List.cons_append,List.nil_append]
   refine go 6 ?_
   skip
   refine go 6 ?_
   refine e0Y (d0Q hgo hok gSp) (a0D rfl Hb.o rfl (hl') gSp ?_)
   simp only[List.cons_append,List.nil_append]
   refine go 5 ?_
   refine f0F gFd fun by2 gv2 gc2 o2 hgo2 hok2=> ?_
   simp only[e0A,d0I,List.cons_append,List.nil_append]
   refine go 5 ?_
   refine e0Y (d0Q hgo2 hok2 gSp) (a0D rfl Hb.o rfl (m1C a t) gSp ?_)
   simp only[List.cons_append,List.nil_append]
   refine go 3 ?_
   refine d0W rfl (by rw[h0];rfl) ?_
   refine go 2 ?_
   refine a0D rfl Hb.o rfl (k1J a t) gSp ?_
   refine ns ?_
   refine go 8 ?_
   refine c0I rfl (fun _ _ h=>h) rfl rfl gSp
  ·have htr:n0T run (s,c)=(.ok e,(t,c')):=by simp[n0T,a0B,ho,h0]
   rw[htr]
   refine a0C Tryz.func50 rfl Tryz.ntmps50 rfl (fun R w0=> ?_)
   simp only[a0N,List.cons_append,List.nil_append]
   refine f0F gFd fun by_ gv gc o hgo hok=> ?_
   simp only[e0A,d0I,List.cons_append,List.nil_append]
   refine go 12 ?_
   refine e0Y (d0Q hgo hok gSp) (a0D rfl Hb.o rfl (hl') gSp ?_)
   simp only[List.cons_append,List.nil_append]
   refine go 5 ?_
   refine f0F gFd fun by2 gv2 gc2 o2 hgo2 hok2=> ?_
   simp only[e0A,d0I,List.cons_append,List.nil_append]
   refine go 5 ?_
   refine e0Y (d0Q hgo2 hok2 gSp) (a0D rfl Hb.o rfl (m1C a t) gSp ?_)
   simp only[List.cons_append,List.nil_append]
   refine go 3 ?_
   refine c0C rfl (decide_eq_false (by omega)) ?_
   refine go 8 ?_
   refine c0I rfl (fun _ _ h=>h) rfl rfl gSp
end
theorem s0G {n:Nat} {α S:Type} {o:Out α×S} (h:o.1≠ .big) (hb:1000000000≤n→o.1= .big):n<1000000000:=by
 rcases Nat.lt_or_ge n 1000000000 with h'|h'
 ·exact h'
 ·exact(h (hb h')).elim
theorem e1O {s:St} (k:Int) (h:s.log.length<1000000000):k0F k s=(.ok (),{s with log:=bk s.depth s.log (.refs k (a0H k s.refs)),refs:=b0I k s.refs}):=by
 simp[k0F,a0B,back,show ¬1000000000≤s.log.length by omega]
theorem c1A {s:St} (k:Int) (h:s.log.length<1000000000):f0H k s=(.ok (),{s with log:=bk s.depth s.log (.young k (a0H k s.young)),young:=b0I k s.young}):=by
 simp[f0H,a0B,back,show ¬1000000000≤s.log.length by omega]
theorem a2E {s:St} (l:List Int) (hl:l.length<1000000000) (h:s.log.length<1000000000):g0Z l s=(.ok (),{s with log:=bk s.depth s.log (.gone s.gone),gone:=l}):=by
 simp[g0Z,a0B,back,show ¬1000000000≤s.log.length by omega,show ¬1000000000≤l.length by omega]
theorem k1K {s:St} (st:c0Y) (h:s.log.length<1000000000):back st s=(.ok (),{s with log:=bk s.depth s.log st}):=by
 simp[back,show ¬1000000000≤s.log.length by omega]
theorem p1Z {s:St} {st:c0Y} (h:(back st s).1≠ .big):s.log.length<1000000000:=by
 rcases Nat.lt_or_ge s.log.length 1000000000 with h'|h'
 ·exact h'
 ·exact(h (by simp[back,h'])).elim
theorem m1E {s:St} {k:Int} (h:(e0I k s).1≠ .big):inR k=true:=by
 cases hi:inR k with
 |true=>rfl
 |false=>exact(h (by simp[e0I,hi])).elim
theorem e2F {s:St} {k:Int} (hnb:(e0I k s).1≠ .big) (h1:d0U s k=1):
 inR k=true∧s.log.length<1000000000∧(bk s.depth s.log (.refs k (a0H k s.refs))).length<1000000000∧
 (let l2:=bk s.depth (bk s.depth s.log (.refs k (a0H k s.refs))) (.back k)
  if 0<h0A s k then s.gone.length+1<1000000000∧l2.length<1000000000∧(bk s.depth l2 (.young k (a0H k s.young))).length<1000000000∧
   e0I k s=(.ok true,{s with refs:=b0I k s.refs,g:=mvL s.fr s.g k 1 2,young:=b0I k s.young,gone:=s.gone++ [k],log:=bk s.depth (bk s.depth l2 (.young k (a0H k s.young))) (.gone s.gone)})
   else e0I k s=(.ok true,{s with refs:=b0I k s.refs,g:=mvL s.fr s.g k 1 2,log:=l2})):=by
 have hi:=m1E hnb
 have e1:e0I k s=a0B (k0F k) (fun _=>a0B (fun s=>back (.back k) {s with g:=mvL s.fr s.g k 1 2}) fun _=>
  a0B (fun s=>if 0<h0A s k then a0B (f0H k) (fun _ s=>g0Z (s.gone++ [k]) s) s else ret () s) fun _=>ret true) s:=by
  simp[e0I,hi,h1]
 rw[e1]at hnb
 have a1:s.log.length<1000000000:=w1Q (c0R hnb) fun h=>by simp[k0F,a0B,back,h]
 have b1:=o0E hnb (e1O k a1)
 have a2:=p1Z (c0R b1)
 have b2:=o0E b1 (k1K _ a2)
 refine⟨hi,a1,a2,?_⟩
 simp only
 rw[e1,a0A (e1O k a1),a0A (m:=fun s=>back (.back k) {s with g:=mvL s.fr s.g k 1 2}) (k1K (s:= {s with refs:=b0I k s.refs,g:=mvL s.fr s.g k 1 2,log:=bk s.depth s.log (.refs k (a0H k s.refs))}) (.back k) a2)]
 have b3:=c0R b2
 split
 ·rename_i hy
  have hy':0<h0A {s with refs:=b0I k s.refs,g:=mvL s.fr s.g k 1 2,log:=bk s.depth (bk s.depth s.log (.refs k (a0H k s.refs))) (.back k)} k:=hy
  rw[if_pos hy']at b3
  have a3:=s0G (n:=(bk s.depth (bk s.depth s.log (.refs k (a0H k s.refs))) (.back k)).length) (c0R b3) fun h=>by simp[f0H,a0B,back,h]
  have b4:=o0E b3 (c1A k a3)
  have a4:=s0G (n:=(bk s.depth (bk s.depth (bk s.depth s.log (.refs k (a0H k s.refs))) (.back k)) (.young k (a0H k s.young))).length) b4 fun h=>by simp only[g0Z];split<;>simp[a0B,back,h]
  have a5:=s0G (n:=(s.gone++ [k]).length) b4 fun h=>by rw[g0Z,if_pos h]
  refine⟨by simpa using a5,a3,a4,?_⟩
  have e:(fun s=>if 0<h0A s k then a0B (f0H k) (fun _ s=>g0Z (s.gone++ [k]) s) s else ret () s) {s with refs:=b0I k s.refs,g:=mvL s.fr s.g k 1 2,log:=bk s.depth (bk s.depth s.log (.refs k (a0H k s.refs))) (.back k)} =
   (.ok (),{s with refs:=b0I k s.refs,g:=mvL s.fr s.g k 1 2,young:=b0I k s.young,gone:=s.gone++ [k],log:=bk s.depth (bk s.depth (bk s.depth (bk s.depth s.log (.refs k (a0H k s.refs))) (.back k)) (.young k (a0H k s.young))) (.gone s.gone)}):=by
   simp only[if_pos hy']
   rw[a0A (c1A k a3),a2E _ a5 a4]
  rw[a0A e];rfl
 ·rename_i hy
  have hy': ¬0<h0A {s with refs:=b0I k s.refs,g:=mvL s.fr s.g k 1 2,log:=bk s.depth (bk s.depth s.log (.refs k (a0H k s.refs))) (.back k)} k:=hy
  have e:(fun s=>if 0<h0A s k then a0B (f0H k) (fun _ s=>g0Z (s.gone++ [k]) s) s else ret () s) {s with refs:=b0I k s.refs,g:=mvL s.fr s.g k 1 2,log:=bk s.depth (bk s.depth s.log (.refs k (a0H k s.refs))) (.back k)} =
   (.ok (),{s with refs:=b0I k s.refs,g:=mvL s.fr s.g k 1 2,log:=bk s.depth (bk s.depth s.log (.refs k (a0H k s.refs))) (.back k)}):=by
   simp only[if_neg hy'];rfl
  rw[a0A e];rfl
section
theorem m1F {gv:Value} {l:List Int} {gc:List (Nat×Obj)} {b cap:Nat} {cur:List Value} {k:Int} (hg:m0G gv l gc) (hk:inR k=true) (h1:l.length+1≤cap) (h2:cap≤maxLen) (h3:cur.length=cap*1) (h4:cur.take ((l.length+1)*1)=l.map a0V++ [.int .i64 k]):
 m0G (.slice (some ⟨b,0,none⟩) (l.length+1) cap) (l++ [k]) [(b,.cells cur.toArray 3 (0,0))]:=by
 refine⟨fun x hx=> ?_,.inr ⟨b,cap,cur,by simp,by simpa using h1,h2,by simpa using h3,by simpa [a0V] using h4,rfl⟩⟩
 rcases List.mem_append.1 hx with hx|hx
 ·exact hg.1 x hx
 ·simp at hx;subst hx;exact hk
attribute [local irreducible] Sl.a0L Sl.OW Sl.CW Sl.OS Sl.OM Sl.OMf Sl.KM
theorem a2F (W:World) (a:Ad) (s:St) (at_:Int) (h0:d0U s at_=0):a0S Tryz.prog 206 #[ptr a.heap,.int .i64 at_] (RS W a s) (Ran fT (RS W a) (fun b=> .bool b) ((.err 6,s):Out Bool×St)):=by
 have h0':(a0H at_ s.refs).getD 0=0:=h0
 refine a0C Tryz.func206 rfl Tryz.ntmps206 rfl (fun R w0=> ?_)
 simp only[a0N,List.cons_append,List.nil_append]
 refine f0F gFd fun by_ gv gc o hg hok=> ?_
 simp only[e0A,d0I,List.cons_append,List.nil_append]
 refine go 2 ?_
 refine(a0X rfl (fun b2=> ?_))
 refine(a0X rfl (fun b3=> ?_))
 refine go 10 ?_
 refine c0K (k0G (ek:=a0V) (ev:=a0V) e0T.o m0R (tt fun _=>trivial) trivial Zr.o rfl rfl gFd i0S) ?_
 refine go 16 ?_
 refine d0W rfl (by simp[h0']) ?_
 refine go 1 ?_
 refine c0M rfl Hb.o rfl (d0C 6) gSp ?_
 simp only[List.cons_append,List.nil_append]
 refine pn ?_
 refine b0O (d0Q hg hok gSp) (e0H (fun _ _ h=>h) (b0L.back gSp) ⟨rfl,rfl⟩)
theorem e2G (W:World) (a:Ad) (s:St) (at_:Int) (h0: ¬d0U s at_=0) (h1: ¬d0U s at_=1) (hn:s.log.length<1000000000):
 a0S Tryz.prog 206 #[ptr a.heap,.int .i64 at_] (RS W a s) (Ran fT (RS W a) (fun b=> .bool b) ((.ok false,{s with log:=bk s.depth s.log (.refs at_ (a0H at_ s.refs)),refs:=c0F at_ (m0D (d0U s at_-1)) s.refs}):Out Bool×St)):=by
 have h0': ¬(a0H at_ s.refs).getD 0=0:=h0
 have h1': ¬(a0H at_ s.refs).getD 0=1:=h1
 refine a0C Tryz.func206 rfl Tryz.ntmps206 rfl (fun R w0=> ?_)
 simp only[a0N,List.cons_append,List.nil_append]
 refine f0F gFd fun by_ gv gc o hg hok=> ?_
 simp only[e0A,d0I,List.cons_append,List.nil_append]
 refine go 2 ?_
 refine(a0X rfl (fun b2=> ?_))
 refine(a0X rfl (fun b3=> ?_))
 refine go 10 ?_
 refine c0K (k0G (ek:=a0V) (ev:=a0V) e0T.o m0R (tt fun _=>trivial) trivial Zr.o rfl rfl gFd i0S) ?_
 refine go 16 ?_
 refine c0C rfl (by simp[h0']) ?_
 refine go 6 ?_
 refine c0C rfl (by simp[h1']) ?_
 refine go 3 ?_
 refine d0S 11 Fol.o (by kernel_rfl) ?_
 simp only[List.take_succ_cons,List.take_zero,List.drop_succ_cons,List.drop_zero]
 refine go 10 ?_
 refine c0K (o1J rfl rfl) ?_
 refine go 1 ?_
 rw[m1D]
 refine a0W rfl Hb.o rfl (p0B a by_ o s.log s.depth a.refs s.refs at_ (m0D (d0U s at_-1)) (.refs at_ (a0H at_ s.refs)) hn (fun _ _ _ _=>⟨_,_,_,_,.inl rfl,rfl⟩)) gSp ?_
 rintro e _
 refine ns ?_
 refine go 7 ?_
 refine c0S (d0Q (s:= {s with log:=bk s.depth s.log (.refs at_ (a0H at_ s.refs)),refs:=c0F at_ (m0D (d0U s at_-1)) s.refs}) hg hok gSp) (c0I rfl (fun _ _ h=>h) rfl rfl gSp)
end
end Go.Proofs.Q

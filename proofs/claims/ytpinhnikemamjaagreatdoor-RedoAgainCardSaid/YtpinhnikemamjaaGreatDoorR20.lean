/- Part of the proof; no statement of its own. -/
import Derived.Test.YtpinhnikemamjaaGreatDoorR18
import Derived.Test.YtpinhnikemamjaaGreatDoorR19
import Derived.Test.YtpinhnikemamjaaGreatDoorR05
import Derived.Test.YtpinhnikemamjaaGreatDoorR08
set_option linter.all false
set_option maxRecDepth 4000
set_option maxHeartbeats 4000000
attribute [local irreducible] Go.Sl.a0O Go.Sl.OW Go.Sl.CW Go.Sl.OS Go.Sl.OM Go.Sl.OMf Go.Sl.KM
namespace Go.Proofs.Q
open Go.Sl Go.Sb Tryz
def n0W (s:St):Prop:=s.fr≤5000∧s.g.length≤5000∧(∀x∈s.g,x<3)∧ ∀p∈s.index,p.1.length=32
abbrev h0O (c:List (Nat×Obj)):List a0C:=c.map fun p=>pts p.1 p.2
abbrev TT (a:Ad) (by_:Nat) (gv:Value) (gc:List (Nat×Obj)) (s:St):List a0C:= [i0A a by_ gv s.keep,b0D (h0O gc),b0L by_ a0J a0J s.young,b0L a.refs a0J a0J s.refs,b0L a.ix e0C a0J s.index,b0L a.vols e0H d0Z s.vols,r0Q a s.next s.epoch,
 pts a.gr (.cells (l0F s.fr a.grl s.g).toArray 192 (0,0)),pts a.grl (.cells (s.g.map gst).toArray 3 (0,0))]
theorem w0N (fr:Nat) (l:List Nat) (x:Int) (k t:Nat):(mvL fr l x k t).length=l.length:=by unfold mvL;split<;>simp
theorem w0O {fr:Nat} {l:List Nat} {x:Int} {k t:Nat} (ht:t<3) (hl: ∀y∈l,y<3): ∀y∈mvL fr l x k t,y<3:=by
 intro y hy;unfold mvL at hy;split at hy
 ·rcases List.mem_or_eq_of_mem_set hy with h|rfl
  ·exact hl y h
  ·exact ht
 ·exact hl y hy
theorem t1M {K V:Type} [DecidableEq K] {k:K} {v:V} : ∀ {m:List (K×V)} {p:K×V},p∈b0T k v m→p=(k,v)∨p∈m
 | [],p,h=>by simp[b0T]at h;exact .inl h
 | (j,u)::m,p,h=>by
  unfold b0T at h;split at h
  ·rcases List.mem_cons.1 h with h|h
   ·exact .inl h
   ·exact .inr (List.mem_cons_of_mem _ h)
  ·rcases List.mem_cons.1 h with h|h
   ·exact .inr (by simp[h])
   ·rcases t1M h with h|h
    ·exact .inl h
    ·exact .inr (List.mem_cons_of_mem _ h)
theorem t1N {K V:Type} [DecidableEq K] {k:K} : ∀ {m:List (K×V)} {p:K×V},p∈b0C k m→p∈m
 | [],p,h=>by simp[b0C]at h
 | (j,u)::m,p,h=>by
  unfold b0C at h;split at h
  ·exact List.mem_cons_of_mem _ h
  ·rcases List.mem_cons.1 h with h|h
   ·simp[h]
   ·exact List.mem_cons_of_mem _ (t1N h)
theorem n2F {a:Ad} {by_:Nat} {st:c0P} {v:Value} {c:List (Nat×Obj)} (h:r0P a by_ st v c) {s:St} (hs:n0W s):n0W (n0Z st s):=by
 obtain⟨h1,h2,h3,h4⟩:=hs;cases st with
 |give k=>exact⟨h1,by simpa [n0Z,w0N] using h2,w0O (by omega) h3,h4⟩
 |back k=>exact⟨h1,by simpa [n0Z,w0N] using h2,w0O (by omega) h3,h4⟩
 |index k w=>
  refine⟨h1,h2,h3,fun p hp=> ?_⟩;simp only[n0Z,Sb.f0G]at hp;split at hp
  ·rcases t1M hp with rfl|hp
   ·exact h.1
   ·exact h4 p hp
  ·exact h4 p (t1N hp)
 |_=>exact⟨h1,h2,h3,h4⟩
theorem n2G (a:Ad) (by_:Nat) (gv:Value) (gc:List (Nat×Obj)) (s:St) (st:c0P) (v:Value) (c:List (Nat×Obj)) (hs:r0P a by_ st v c) (hg:m0T gv s.gone gc) (hok:n0W s):
 ∃f bb,v=clo f bb∧e0Y prog f=true∧a0F prog f (bb.map ptr).toArray (b0D (h0O c)::TT a by_ gv gc s)
  (b0N (fun x:Value×List (Nat×Obj)=>m0T x.1 (n0Z st s).gone x.2∧n0W (n0Z st s)) (fun _=> .tuple #[]) (fun x=>TT a by_ x.1 x.2 (n0Z st s))):=by
 have hok':=n2F hs hok;cases st with
 |give k=>
  obtain⟨hk,b1,b2,rfl,rfl⟩:=hs;refine⟨_,[b1,b2],rfl,Hb.o,f0U (gv,gc) ⟨hg,hok'⟩ rfl rfl (k0B ?_)⟩;exact i0Z (x2U a by_ b1 b2 gv s.keep k s.fr s.g hk hok.1 hok.2.1) gSp gSp
 |back k=>
  obtain⟨hk,b1,b2,rfl,rfl⟩:=hs;refine⟨_,[b1,b2],rfl,Hb.o,f0U (gv,gc) ⟨hg,hok'⟩ rfl rfl (k0B ?_)⟩;exact i0Z (x2V a by_ b1 b2 gv s.keep k s.fr s.g hk hok.1 hok.2.1) gSp gSp
 |keep w=>
  obtain⟨b1,b2,rfl,rfl⟩:=hs;refine⟨_,[b1,b2],rfl,Hb.o,f0U (gv,gc) ⟨hg,hok'⟩ rfl rfl (k0B ?_)⟩;exact i0Z (s2R a by_ b1 b2 gv w s.keep) gSp gSp
 |next w=>
  obtain⟨b1,b2,rfl,rfl⟩:=hs;refine⟨_,[b1,b2],rfl,Hb.o,f0U (gv,gc) ⟨hg,hok'⟩ rfl rfl (k0B ?_)⟩;exact i0Z (s2S a b1 b2 w s.next s.epoch) gSp gSp
 |gone w=>
  obtain⟨b1,b2,x,b3,rfl,rfl,hx⟩:=hs;have hx1:x.oneCell'=true:=by rcases hx with ⟨_,⟨_,rfl,_⟩| ⟨_,_,_,rfl,_⟩⟩<;>rfl
  refine⟨_,[b1,b2],rfl,Hb.o,f0U (x,b3) ⟨hx,hok'⟩ rfl rfl (h1I (Pre:=cel b1 90 x::cel b2 319 (.pointer (some ⟨a.heap,5,none⟩))::b0D (h0O b3)::TT a by_ gv gc s) (fun w F h=> ?_) ?_)⟩
  ·have h0:Sat w (b0D (h0O (d0U b1 90 x::d0U b2 319 (.pointer (some ⟨a.heap,5,none⟩))::b3))::(TT a by_ gv gc s++F)):=h;have h1:=b0J.1 h0;have h1':Sat w ([cel b1 90 x,cel b2 319 (.pointer (some ⟨a.heap,5,none⟩))]++(h0O b3++(TT a by_ gv gc s++F))):=h1;have h2:=h1'.perm List.perm_append_comm;rw[List.append_assoc]at h2;have h3:=(b0J.2 h2).perm (List.perm_append_comm (l₁:=b0D (h0O b3)::(TT a by_ gv gc s++F)) (l₂:= [cel b1 90 x,cel b2 319 (.pointer (some ⟨a.heap,5,none⟩))]));exact h3
  ·exact i0Z (s2T a by_ b1 b2 gv x s.keep hx1) gSp gSp
 |refs k w=>
  obtain⟨b1,b2,b3,b4,hv,rfl⟩:=hs;rcases hv with rfl|rfl
  ·refine⟨_,[b1,b2,b3,b4],rfl,Hb.o,f0U (gv,gc) ⟨hg,hok'⟩ rfl rfl (k0B ?_)⟩;exact i0Z (z1Z b1 b2 b3 b4 a.refs s.refs k w) gSp gSp
  ·refine⟨_,[b1,b2,b3,b4],rfl,Hb.o,f0U (gv,gc) ⟨hg,hok'⟩ rfl rfl (k0B ?_)⟩;exact i0Z (t1L b1 b2 b3 b4 a.refs s.refs k w) gSp gSp
 |young k w=>
  obtain⟨b1,b2,b3,b4,hv,rfl⟩:=hs;rcases hv with rfl|rfl
  ·refine⟨_,[b1,b2,b3,b4],rfl,Hb.o,f0U (gv,gc) ⟨hg,hok'⟩ rfl rfl (k0B ?_)⟩;exact i0Z (z1Z b1 b2 b3 b4 by_ s.young k w) gSp gSp
  ·refine⟨_,[b1,b2,b3,b4],rfl,Hb.o,f0U (gv,gc) ⟨hg,hok'⟩ rfl rfl (k0B ?_)⟩;exact i0Z (t1L b1 b2 b3 b4 by_ s.young k w) gSp gSp
 |index k w=>
  obtain⟨hk,b1,b2,b3,b4,hv,rfl⟩:=hs;rcases hv with rfl|rfl
  ·refine⟨_,[b1,b2,b3,b4],rfl,Hb.o,f0U (gv,gc) ⟨hg,hok'⟩ rfl rfl (k0B ?_)⟩;exact i0Z (s2P b1 b2 b3 b4 a.ix s.index k w hok.2.2.2 hk) gSp gSp
  ·refine⟨_,[b1,b2,b3,b4],rfl,Hb.o,f0U (gv,gc) ⟨hg,hok'⟩ rfl rfl (k0B ?_)⟩;exact i0Z (n2D b1 b2 b3 b4 a.ix s.index k w hok.2.2.2 hk) gSp gSp
 |vols k w=>
  obtain⟨b1,b2,b3,b4,hv,rfl⟩:=hs;rcases hv with rfl|rfl
  ·refine⟨_,[b1,b2,b3,b4],rfl,Hb.o,f0U (gv,gc) ⟨hg,hok'⟩ rfl rfl (k0B ?_)⟩;exact i0Z (s2Q b1 b2 b3 b4 a.vols s.vols k w) gSp gSp
  ·refine⟨_,[b1,b2,b3,b4],rfl,Hb.o,f0U (gv,gc) ⟨hg,hok'⟩ rfl rfl (k0B ?_)⟩;exact i0Z (n2E b1 b2 b3 b4 a.vols s.vols k w) gSp gSp
theorem d2G {a:Ad} {by_:Nat} {o:Own} {log:List c0P} {vals:List Value} {n:Nat} (h:o0Y a by_ o log vals) (hn:log.length=n+1):
 ∃(vals':List Value) (e:c0P×Value×List (Nat×Obj)) (o':Own),vals=vals'++ [e.2.1]∧vals'.length=n∧o.Perm (e::o')∧r0P a by_ e.1 e.2.1 e.2.2∧log.drop n= [e.1]∧o0Y a by_ o' (log.take n) vals':=by
 obtain⟨h1,live,rest,hp,rfl,rfl,hl⟩:=h;have hlen:live.length=n+1:=by simpa using hn
 obtain⟨l',e,rfl⟩: ∃l' e,live=l'++ [e]:=⟨live.dropLast,live.getLast (by intro h;simp[h]at hlen),(List.dropLast_concat_getLast _).symm⟩;have hl':l'.length=n:=by simpa using hlen
 refine⟨l'.map (·.2.1),e,l'++rest,by simp,by simpa using hl',?_,hl e (by simp),?_,?_⟩
 ·refine hp.trans ?_;rw[List.append_assoc];exact List.perm_middle
 ·simp[←hl']
 ·refine⟨by simp at h1 ⊢;omega,l',rest,List.Perm.refl _,?_,rfl,fun e' he=>hl e' (by simp[he])⟩;rw[List.map_append,←hl',List.take_left' (by simp)]
theorem s2U {o o':Own} {e:c0P×Value×List (Nat×Obj)} {L M:List a0C} (hp:o.Perm (e::o')) (hL:Fnd L (b0D (Own.cells o)) M) (w:World) (h:Sat w L):Sat w (b0D (h0O e.2.2)::b0D (Own.cells o')::M):=by
 have h1:=b0J.1 (hL.sat h);have h2:(Own.cells o).Perm (h0O e.2.2++Own.cells o'):=by
  have:=(hp.flatMap_right (fun x=>x.2.2)).map (fun p:Nat×Obj=>pts p.1 p.2);simpa [Own.cells,h0O] using this
 have h3:Sat w (h0O e.2.2++(Own.cells o'++M)):=h1.perm ((h2.append_right M).trans (by rw[List.append_assoc]));have h4:Sat w (Own.cells o'++(b0D (h0O e.2.2)::M)):=(b0J.2 h3).perm List.perm_middle.symm;exact(b0J.2 h4).perm (List.Perm.swap _ _ _)
theorem d1Z (s:St): ∀l,(e0I s l).log=s.log∧(e0I s l).depth=s.depth
 | []=>⟨rfl,rfl⟩
 |st::l=>by
  have:=d1Z s l;cases st<;>exact this
theorem i2A {l:List c0P} {k n:Nat} {e:c0P} (hk:k=n+1) (hl:(l.take k).drop n= [e]):l.drop n=e::l.drop k:=by
 subst hk;have h1:(l.take (n+1))++l.drop (n+1)=l:=List.take_append_drop _ _;have h2:n≤(l.take (n+1)).length:=by
  rcases Nat.lt_or_ge (l.take (n+1)).length n with h|h
  ·rw[List.drop_eq_nil_of_le (by omega)]at hl;cases hl
  ·exact h
 conv=>lhs;rw[←h1]
 rw[List.drop_append_of_le_length h2,hl];rfl
theorem s2V (a:Ad) (by_:Nat) (gv0:Value) (gc0:List (Nat×Obj)) (o0:Own) (s:St) (h0Q:Nat) (hg0:m0T gv0 s.gone gc0) (hok0:n0W s):
 a0F prog 148 #[ptr a.log,.int .i64 h0Q] (e0E a by_ o0 s.log s.depth::TT a by_ gv0 gc0 s)
  (b0N (fun x:Value×List (Nat×Obj)×Own=>m0T x.1 (d0J h0Q s).gone x.2.1∧n0W (d0J h0Q s)) (fun _=> .tuple #[]) (fun x=>e0E a by_ x.2.2 (d0J h0Q s).log (d0J h0Q s).depth::TT a by_ x.1 x.2.1 (d0J h0Q s))):=by
 refine en func148 ntmps148 fun R w0=> ?_;refine go 1 ?_;have hx0:s.log.length≤s.log.length∧(h0Q≤s.log.length∨s.log.length=s.log.length)∧m0T gv0 (e0I s (s.log.drop s.log.length)).gone gc0∧n0W (e0I s (s.log.drop s.log.length)):=by rw[List.drop_length];exact⟨Nat.le_refl _,.inr rfl,hg0,hok0⟩
 refine j1O (L':=e0E a by_ o0 (s.log.take s.log.length) s.depth::(TT a by_ gv0 gc0 (e0I s (s.log.drop s.log.length))++ [R])) (by rw[List.take_length,List.drop_length];rfl) ?_;simp only[TT,List.cons_append,List.nil_append];refine a0V (X:= {x:Nat×Value×List (Nat×Obj)×Own // x.1≤s.log.length∧(h0Q≤x.1∨x.1=s.log.length)∧m0T x.2.1 (e0I s (s.log.drop x.1)).gone x.2.2.1∧n0W (e0I s (s.log.drop x.1))}) (fun _=> [(0,ptr a.log),(1,.int .i64 h0Q)]) (fun x=>e0E a by_ x.1.2.2.2 (s.log.take x.1.1) s.depth::(TT a by_ x.1.2.1 x.1.2.2.1 (e0I s (s.log.drop x.1.1))++ [R])) (fun x=>x.1.1) ⟨(s.log.length,gv0,gc0,o0),hx0⟩ gSu gSp ?_;rintro⟨⟨k,gv,gc,o⟩,hk,hmk,hg,hok⟩ m0 hm0
 try simp only at hm0
 try dsimp only
 dsimp only at hk hmk hg hok;simp only[TT,List.cons_append,List.nil_append];refine x0O gFd fun v vals hlk hdp hv1=> ?_;have hlen:=hlk.len;rw[List.length_take,Nat.min_eq_left hk]at hlen;refine go 7 ?_;refine a0D (h0Y Tsl.o rfl gFd) ?_;refine go 4 ?_;refine a0P rfl (fun hb12=> ?_) (fun hb12=> ?_)
 ·have hkm:h0Q<k:=by have:=of_decide_eq_true hb12;omega
  obtain⟨n,rfl⟩: ∃n,k=n+1:=⟨k-1,by omega⟩;obtain⟨vals',e,o',rfl,hvl,hperm,hst,hdr,hlk'⟩:=d2G (n:=n) hlk (by rw[List.length_take];omega);obtain⟨f,bb,hclo,hbody,hdoes⟩:=n2G a by_ gv gc (e0I s (s.log.drop (n+1))) e.1 e.2.1 e.2.2 hst hg hok;have hdrop:=i2A (n:=n) (l:=s.log) rfl hdr;have htk:(s.log.take (n+1)).take n=s.log.take n:=by rw[List.take_take,Nat.min_eq_left (by omega)]
  rw[htk]at hlk';refine i0Y gFd (by omega) fun bl cap hvv hcap=> ?_;subst hvv;have hnl:(vals'++ [e.2.1]).length=n+1:=by simp[hvl]
  have hb9:n+1≤1000000000:=by have:=hlk.1;rw[List.length_take]at this;omega
  have hix:0+((((vals'++ [e.2.1]).length:Nat):Int)-1).toNat*1=vals'.length:=by omega
  refine go 9 ?_;refine a0D (h0Y Tsl.o rfl gFd) ?_;refine go 12 ?_;refine a0D (a0U Sc.o rfl gFd (v:= .func (.func f) #[] (bb.map ptr).toArray) (by rw[d0Y,hix,List.getElem?_append_right (Nat.le_refl _)];simp[hclo])) ?_;refine go 11 ?_;refine a0D (h1H Tsl.o rfl rfl (by omega)) ?_;refine go 5 ?_;refine g2K (k:=n) gFd (by omega) ?_;rw[show(vals'++ [e.2.1]).take (n*1)=vals' by rw[Nat.mul_one,←hvl,List.take_left]];refine b0V (s2U hperm gFd) ?_;refine go 2 ?_;refine d0S rfl hbody rfl (hdoes) gSp ?_;rintro⟨gv',gc'⟩ hx;refine ns ?_;refine go 1 ?_;have htn:((((vals'++ [e.2.1]).length:Nat):Int)-1).toNat=n:=by omega
  have hun:n0Z e.1 (e0I s (s.log.drop (n+1)))=e0I s (s.log.drop n):=by rw[hdrop];rfl
  rw[htn,hun];refine b0G (L':=_) (p0P (o:=o') (vals:=vals') hlk' hdp (by rw[hvl];exact gSp)) ?_;exact rd idh (⟨(n,gv',gc',o'),by omega,.inl (by omega),by rw[hdrop];exact hx.1,by rw[hdrop];exact hx.2⟩)
 ·have hkm: ¬h0Q<k:=by have:=of_decide_eq_false hb12;omega
  have hs1:(d0J h0Q s).log=s.log.take k:=by
   show s.log.take h0Q=_;rcases hmk with h|h
   ·rw[show h0Q=k by omega]
   ·rw[h,List.take_of_length_le (by omega),List.take_length]
  have hd1:s.log.drop h0Q=s.log.drop k:=by
   rcases hmk with h|h
   ·rw[show h0Q=k by omega]
   ·rw[h,List.drop_eq_nil_of_le (by omega),List.drop_length]
  have hs2:d0J h0Q s= {e0I s (s.log.drop k)with log:=s.log.take k} :=by
   show {e0I s (s.log.drop h0Q)with log:=s.log.take h0Q} =_;rw[hd1,show s.log.take h0Q=s.log.take k from hs1]
  refine go 1 ?_;refine b0G (L':=_) (p0P hlk hdp gSp) (y1T (gv,gc,o) (by rw[hs2];exact⟨hg,hok⟩) rfl rfl (by rw[hs2,show({e0I s (s.log.drop k)with log:=s.log.take k} :St).depth=s.depth from(d1Z s _).2];exact gSp))
section
attribute [local semireducible] Sl.a0O Sl.OW Sl.CW Sl.OS Sl.OM Sl.OMf Sl.KM
abbrev fT:TypeId:=199
def t0U (x:B×B):List Value:= [.string (bs x.1),.string (bs x.2)]
def l0R (d:Dk):Prop:=(∀x∈d.l,x.1.length=64∧x.2.length=64)∧d.l.length≤4096∧d.left<4611686018427387904
abbrev dkC (a:Ad) (d:Dk):a0C:=pts a.disk (.cells #[a.vd,.bool d.armed,.int .i64 d.left,.bool d.dead] 173 (0,0))
abbrev dkR (a:Ad) (d:Dk):a0C:=b0H 175 2 a.vd d.l.length (d.l.flatMap t0U)
abbrev stC (a:Ad) (bits:Nat):a0C:=pts a.st (.cells #[ptr a.heap,.int .i64 bits,.map (some a.ix)] 210 (0,0))
abbrev mpC (a:Ad):a0C:=pts a.maps (.cells #[ptr a.heap,ptr a.st] 194 (0,0))
abbrev HX:=Nat×Value×List (Nat×Obj)×Own
def hlV (a:Ad) (s:St) (x:HX):List a0C:=e0E a x.1 x.2.2.2 s.log s.depth::m0K (m0T x.2.1 s.gone x.2.2.1∧n0W s)::TT a x.1 x.2.1 x.2.2.1 s
def HL (a:Ad) (s:St):a0C:=ex fun x:HX=>b0D (hlV a s x)
abbrev RS (W:World) (a:Ad) (s:St):List a0C:= [whole W,dkC a s.d,dkR a s.d,m0K (l0R s.d),stC a s.bits,mpC a,HL a s]
def gd {S α:Type} :Out α×S→Out Int×S
 | (.ok _,s)=>(.ok 0,s)
 | (.err e,s)=>(.ok e,s)
 | (.big,s)=>(.big,s)
section
variable {c:Cx} {Q:Exit→Act→World→Prop} {env:List (Nat×Value)} {L M:List a0C} {y:Code} {a:Ad} {s:St}
theorem e0J (hL:Fnd L (HL a s) M) (h: ∀by_ gv gc o,m0T gv s.gone gc→n0W s→CW c y Q env (e0E a by_ o s.log s.depth::(TT a by_ gv gc s++M))):CW c y Q env L:=by
 refine u0N hL fun x=> ?_;obtain⟨by_,gv,gc,o⟩:=x;simp only[hlV,List.cons_append];refine o0E (Fnd.there Fnd.here) fun hf=> ?_;refine b0V (L':=e0E a by_ o s.log s.depth::(TT a by_ gv gc s++M)) (fun w hw=> ?_) (h by_ gv gc o hf.1 hf.2);exact(t0J.1 (hw.perm (List.Perm.swap _ _ _))).2
theorem d0A {by_:Nat} {gv:Value} {gc:List (Nat×Obj)} {o:Own} (hg:m0T gv s.gone gc) (hok:n0W s) (hL:a0Z L (e0E a by_ o s.log s.depth::TT a by_ gv gc s) M) (w:World) (h:Sat w L):Sat w (HL a s::M):=by
 refine g0X.2 ⟨(by_,gv,gc,o),b0J.2 ?_⟩;have h1:=n0H (p:=m0T gv s.gone gc∧n0W s) ⟨hg,hok⟩ w (h.perm hL);exact h1.perm (List.Perm.swap _ _ _)
end
attribute [local irreducible] Sl.a0O Sl.OW Sl.CW Sl.OS Sl.OM Sl.OMf Sl.KM
theorem k1S (a:Ad) (s:St) (hd:0<s.depth):a1M prog 147 #[ptr a.log] .returning [HL a s] (fun e u' L'=> ∃_x:Unit,True∧(∃v,e= .returned v)∧settle u'= .returning∧L'= [HL a (k0F s)]):=by
 refine w1M (args:= [ptr a.log]) func147 rfl ntmps147 rfl (fun R w0=> ?_);simp only[j0Q,List.cons_append,List.nil_append];refine e0J gFd fun by_ gv gc o hg hok=> ?_;refine x0O gFd fun v vals hlk hdp hv1=> ?_;refine go 21 ?_;refine a0P rfl (fun hb13=> ?_) (fun hb13=> ?_)
 ·have h1:s.depth=1:=by have:=of_decide_eq_true hb13;omega
  have h0:((s.depth:Int)-1)=((0:Nat):Int):=by omega
  refine go 6 ?_;rw[h0];refine b0G (fun w h=>e0W 1 1 w h) ?_;refine b0G (p0P (a:=a) (by_:=by_) (o:=o) (log:= []) (depth:=0) (v:= .slice none 0 0) (vals:= []) ⟨by simp,[],o,List.Perm.refl _,rfl,rfl,by simp⟩ (by omega) gSp) ?_;have hl:k0F s= {s with depth:=0,log:= []} :=by unfold k0F;rw[if_pos h1]
  refine b0G (d0A (s:=k0F s) (by_:=by_) (gv:=gv) (gc:=gc) (o:=o) (by rw[hl];exact hg) (by rw[hl];exact hok) (by rw[hl];exact gSp)) ?_;refine w0X rfl (a0Z.back gSp) ⟨(),trivial,⟨_,rfl⟩,rfl,rfl⟩
 ·have h1: ¬s.depth=1:=by have:=of_decide_eq_false hb13;omega
  have h0:((s.depth:Int)-1)=((s.depth-1:Nat):Int):=by omega
  refine go 1 ?_;rw[h0];refine b0G (p0P hlk (depth:=s.depth-1) (by omega) gSp) ?_;have hl:k0F s= {s with depth:=s.depth-1} :=by unfold k0F;rw[if_neg h1]
  refine b0G (d0A (s:=k0F s) (by_:=by_) (gv:=gv) (gc:=gc) (o:=o) (by rw[hl];exact hg) (by rw[hl];exact hok) (by rw[hl];exact gSp)) ?_;refine w0X rfl (a0Z.back gSp) ⟨(),trivial,⟨_,rfl⟩,rfl,rfl⟩
end
theorem t1O (W:World) (a:Ad) (t:St):RS W a (k0F t)= [whole W,dkC a t.d,dkR a t.d,m0K (l0R t.d),stC a t.bits,mpC a,HL a (k0F t)]:=by unfold k0F;split<;>rfl
theorem w0G (s:St): ∀l,(e0I s l).d=s.d∧(e0I s l).bits=s.bits
 | []=>⟨rfl,rfl⟩
 |st::l=>by
  have:=w0G s l;cases st<;>exact this
theorem t1P (m:Nat) (s:St):(d0J m s).d=s.d:=(w0G s _).1
theorem g1N (m:Nat) (s:St):(d0J m s).bits=s.bits:=(w0G s _).2
theorem x1J {C:Type} (W:World) (a:Ad) (RC:C→a0C) (g:FuncId) (cap:List Value) (run:Run (St×C) Unit) (s:St) (c:C) (hb:e0Y prog g=true) (hnb:(n0S run (s,c)).1≠ .big)
 (hrun:(run ({s with depth:=s.depth+1},c)).1≠ .big→a0F prog g cap.toArray (RS W a {s with depth:=s.depth+1} ++ [RC c]) (Ran fT (fun x=>RS W a x.1++ [RC x.2]) (fun _=> .tuple #[]) (run ({s with depth:=s.depth+1},c)))):
 a0F prog 105 #[ptr a.log,.func (.func g) #[] cap.toArray] (RS W a s++ [RC c]) (Ran fT (fun x=>RS W a x.1++ [RC x.2]) (fun e=> .int .i64 e) (n0S run (s,c))):=by
 have hd:s.depth<1000000000:=by
  rcases Nat.lt_or_ge s.depth 1000000000 with h|h
  ·exact h
  ·exact(hnb (by simp[n0S,h])).elim
 have hd': ¬1000000000≤s.depth:=by omega
 cases ho:run ({s with depth:=s.depth+1},c)with
 |mk x y=>
 obtain⟨t,c'⟩:=y;rw[ho]at hrun;cases x with
 |big=>exact(hnb (by simp[n0S,hd',ho])).elim
 |ok x=>
  have ht:t.depth≠0:=fun h=>hnb (by simp[n0S,hd',ho,h]);have htr:n0S run (s,c)=(.ok 0,(k0F t,c')):=by simp[n0S,hd',ho,ht]
  have hg:=n2B g cap _ _ _ hb (hrun (by simp)).ran_ok;refine y0U (args:= [_,_]) func105 rfl ntmps105 rfl (fun R w0=> ?_);simp only[j0Q,List.cons_append,List.nil_append];refine e0J gFd fun by_ gv gc o hgo hok=> ?_;refine x0O gFd fun v vals hlk hdp hv1=> ?_;have hlen:=hlk.len;refine go 11 ?_;refine a0D (h0Y Tsl.o rfl gFd) ?_;refine go 14 ?_;rw[show((s.depth:Nat):Int)+1=((s.depth+1:Nat):Int)from rfl];refine b0G (p0P hlk (depth:=s.depth+1) (by omega) gSp) ?_;refine b0G (d0A (s:= {s with depth:=s.depth+1}) hgo hok gSp) ?_;refine go 4 ?_;refine h1F (f:=147) (first:= []) (cap:= []) rfl rfl ?_;refine cg 5 (hg) ?_;refine go 19 ?_;refine r0M (j1U (cap:= []) (args:= [ptr a.log]) (.inr rfl) idh rfl Hb.o (k1S a t (Nat.pos_of_ne_zero ht)) gSp (fun _ _=>⟨RS W a (k0F t)++ [RC c'],_,by rw[t1O];(try rw[t1P,g1N]);simp only[List.cons_append,List.nil_append];exact gSp,by rw[htr];exact⟨rfl,rfl⟩⟩))
 |err e=>
  have ht: ¬(t.depth=0∨e=0):=fun h=>hnb (by simp[n0S,hd',ho,h]);have htr:n0S run (s,c)=(.ok e,(k0F (d0J s.log.length t),c')):=by simp[n0S,hd',ho,ht]
  have hg:=h2Y g cap _ (RS W a t++ [RC c']) e hb (hrun (by simp));have hdu:(d0J s.log.length t).depth=t.depth:=(d1Z t _).2;refine y0U (args:= [_,_]) func105 rfl ntmps105 rfl (fun R w0=> ?_);simp only[j0Q,List.cons_append,List.nil_append];refine e0J gFd fun by_ gv gc o hgo hok=> ?_;refine x0O gFd fun v vals hlk hdp hv1=> ?_;have hlen:=hlk.len;refine go 11 ?_;refine a0D (h0Y Tsl.o rfl gFd) ?_;refine go 14 ?_;rw[show((s.depth:Nat):Int)+1=((s.depth+1:Nat):Int)from rfl];refine b0G (p0P hlk (depth:=s.depth+1) (by omega) gSp) ?_;refine b0G (d0A (s:= {s with depth:=s.depth+1}) hgo hok gSp) ?_;refine go 4 ?_;refine h1F (f:=147) (first:= []) (cap:= []) rfl rfl ?_;refine cg 5 (hg) ?_;refine go 10 ?_;refine d0R rfl (by simp;exact fun h=>ht (.inr h)) ?_;rw[←hlen];refine e0J gFd fun by2 gv2 gc2 o2 hgo2 hok2=> ?_;refine ce 3 (s2V a by2 gv2 gc2 o2 t s.log.length hgo2 hok2) ?_;rintro⟨gv3,gc3,o3⟩ hx;refine ns ?_;refine go 1 ?_;refine b0G (d0A (s:=d0J s.log.length t) hx.1 hx.2 gSp) ?_;refine go 7 ?_;refine r0M (j1U (cap:= []) (args:= [ptr a.log]) (.inr rfl) idh rfl Hb.o (k1S a (d0J s.log.length t) (by rw[hdu];omega)) gSp (fun _ _=>⟨RS W a (k0F (d0J s.log.length t))++ [RC c'],_,by rw[t1O];(try rw[t1P,g1N]);simp only[List.cons_append,List.nil_append];exact gSp,by rw[htr];exact⟨rfl,rfl⟩⟩))
abbrev dk3 (a:Ad) (d:Dk):List a0C:= [dkC a d,dkR a d,m0K (l0R d)]
def k0I (_:Unit):Value:= .tuple #[]
theorem o0Z (a:Ad) (d:Dk) (h:d.dead=false):a0F prog 225 #[ptr a.disk] [dkC a d] (a0T (.tuple #[]) [dkC a d]):=by
 refine en func225 ntmps225 fun R w0=> ?_;refine go 8 ?_;refine b0R rfl h ?_;refine go 1 ?_;refine d0W rfl rfl gSp
theorem i1K (a:Ad) (d:Dk) (h:d.dead=true):a0F prog 225 #[ptr a.disk] [dkC a d] (fun en L=>en= .panicked (s0S fT 12)∧L= [dkC a d]):=by
 refine en func225 ntmps225 fun R w0=> ?_;refine go 8 ?_;refine d0R rfl h ?_;refine go 1 ?_;refine c0G rfl Hb.o rfl (c0S 12) gSp ?_;refine ns ?_;refine pn ?_;refine e0A idh (a0Z.back gSp) ⟨rfl,rfl⟩
theorem b1Q (a:Ad) (d:Dk) (at_:Int) (h: ¬(at_<0∨(d.l.length:Int)≤at_)):a0F prog 226 #[ptr a.disk,.int .i64 at_] [dkC a d,dkR a d] (a0T (.tuple #[]) [dkC a d,dkR a d]):=by
 refine en func226 ntmps226 fun R w0=> ?_;refine o0L gFd fun p cap hv hcap hl=> ?_;refine go 10 ?_;refine c0R (h0Y Tsl.o rfl gFd) (wg rfl rfl rfl (wFF gF)) ?_;refine go 6 ?_;refine d0W rfl rfl gSp
theorem t1Q (a:Ad) (d:Dk) (at_:Int) (h:at_<0∨(d.l.length:Int)≤at_):a0F prog 226 #[ptr a.disk,.int .i64 at_] [dkC a d,dkR a d] (fun en L=>en= .panicked (s0S fT 6)∧L= [dkC a d,dkR a d]):=by
 by_cases h0:at_<0
 ·refine en func226 ntmps226 fun R w0=> ?_;refine go 17 ?_;refine c0G rfl Hb.o rfl (c0S 6) gSp ?_;refine ns ?_;refine pn ?_;refine e0A idh (a0Z.back gSp) ⟨rfl,rfl⟩
 ·refine en func226 ntmps226 fun R w0=> ?_;refine go 10 ?_;refine c0R (h0Y Tsl.o rfl gFd) (wg rfl rfl rfl (wFF gF)) ?_;refine go 6 ?_;refine c0G rfl Hb.o rfl (c0S 6) gSp ?_;refine ns ?_;refine pn ?_;refine e0A idh (a0Z.back gSp) ⟨rfl,rfl⟩
theorem d2H (a:Ad) (d:Dk) (hl:d.left<4611686018427387904):a0F prog 285 #[ptr a.disk] [dkC a d] (Ran fT (fun d=> [dkC a d]) k0I (k0K d)):=by
 by_cases h1:d.dead=true
 ·have e:k0K d=(.err 12,d):=by simp[k0K,h1]
  rw[e];refine en func285 ntmps285 fun R w0=> ?_;refine go 3 ?_;refine c0G rfl Hb.o rfl (i1K a d h1) gSp ?_;refine ns ?_;refine pn ?_;refine e0A idh (a0Z.back gSp) ⟨rfl,rfl⟩
 ·have h1':d.dead=false:=by simpa using h1
  by_cases h2:d.armed=false
  ·have e:k0K d=(.ok (),d):=by simp[k0K,h1',h2]
   rw[e];refine en func285 ntmps285 fun R w0=> ?_;refine cg 3 (o0Z a d h1') ?_;refine go 12 ?_;refine d0R rfl (by rw[h2];rfl) ?_;exact rR idh rfl
  ·have h2':d.armed=true:=by simpa using h2
   cases h3:d.left with
   |zero=>
    have e:k0K d=(.err 12,{d with dead:=true}):=by simp[k0K,h1',h2',h3]
    rw[e];refine en func285 ntmps285 fun R w0=> ?_;refine cg 3 (o0Z a d h1') ?_;refine go 12 ?_;refine b0R rfl (by rw[h2'];rfl) ?_;refine go 12 ?_;refine d0R rfl (by rw[h3];rfl) ?_;refine go 9 ?_;refine c0G rfl Hb.o rfl (c0S 12) gSp ?_;refine ns ?_;refine pn ?_;refine e0A idh (a0Z.back gSp) ⟨rfl,rfl⟩
   |succ n=>
    have e:k0K d=(.ok (),{d with left:=n}):=by simp[k0K,h1',h2',h3]
    rw[e];refine en func285 ntmps285 fun R w0=> ?_;refine cg 3 (o0Z a d h1') ?_;refine go 12 ?_;refine b0R rfl (by rw[h2'];rfl) ?_;refine go 12 ?_;refine b0R rfl (by rw[h3];exact decide_eq_false (by omega)) ?_;refine go 12 ?_;rw[show((d.left:Nat):Int)-1=((n:Nat):Int) by omega];exact fR rfl
abbrev b0B (s:B):Value:= .string (bs s)
theorem i2B {l:List (B×B)} {i:Nat} {x:B×B} (h:l[i]? =some x):nth (l.flatMap t0U) (2*i)=some (b0B x.1)∧nth (l.flatMap t0U) (2*i+1)=some (b0B x.2):=by
 induction l generalizing i with
 |nil=>simp at h
 |cons y l ih=>
  cases i with
  |zero=>simp at h;subst h;exact⟨rfl,rfl⟩
  |succ i=>
   have:=ih (i:=i) (by simpa using h);simp only[List.flatMap_cons];exact this
theorem t0S (l:List (B×B)):(l.flatMap t0U).length=l.length*2:=by
 induction l with
 |nil=>rfl
 |cons x l ih=>simp only[List.flatMap_cons,List.length_append,ih,List.length_cons,t0U];simp;omega
theorem s2W (l:List (B×B)) (i:Nat) (x:B×B) (v:B) (h:l[i]? =some x):(l.flatMap t0U).set (2*i+1) (b0B v)=(l.set i (x.1,v)).flatMap t0U:=by
 induction l generalizing i with
 |nil=>simp at h
 |cons y l ih=>
  cases i with
  |zero=>simp at h;subst h;rfl
  |succ i=>
   have:=ih i (by simpa using h);simp only[List.flatMap_cons,List.set_cons_succ];show _=t0U y++_;rw[←this];rfl
theorem d2I {d:Dk} {at_:Int} (h: ¬(at_<0∨(d.l.length:Int)≤at_)):d.l[at_.toNat]? =some (d.l.getD at_.toNat ([],[])):=by
 have:at_.toNat<d.l.length:=by omega
 simp[List.getD_eq_getElem?_getD,List.getElem?_eq_getElem this]
theorem d2J (a:Ad) (d:Dk) (at_:Int):a0F prog 187 #[ptr a.disk,.int .i64 at_] [dkC a d,dkR a d] (Ran fT (fun _=> [dkC a d,dkR a d]) b0B (n0F d at_,d)):=by
 by_cases h1:d.dead=true
 ·have e:n0F d at_= .err 12:=by simp[n0F,h1]
  rw[e];refine en func187 ntmps187 fun R w0=> ?_;refine go 8 ?_;refine c0G rfl Hb.o rfl (i1K a d h1) gSp ?_;refine ns ?_;refine pn ?_;refine e0A idh (a0Z.back gSp) ⟨rfl,rfl⟩
 ·have h1':d.dead=false:=by simpa using h1
  by_cases h2:at_<0∨(d.l.length:Int)≤at_
  ·have e:n0F d at_= .err 6:=by simp[n0F,h1',h2]
   rw[e];refine en func187 ntmps187 fun R w0=> ?_;refine cg 8 (o0Z a d h1') ?_;refine go 6 ?_;refine c0G rfl Hb.o rfl (t1Q a d at_ h2) gSp ?_;refine ns ?_;refine pn ?_;refine e0A idh (a0Z.back gSp) ⟨rfl,rfl⟩
  ·have e:n0F d at_= .ok (d.l.getD at_.toNat ([],[])).2:=by simp[n0F,h1',h2]
   have hat:=i2B (d2I h2);rw[e];refine en func187 ntmps187 fun R w0=> ?_;refine o0L gFd fun p cap hv hcap hl=> ?_;refine cg 8 (o0Z a d h1') ?_;refine cg 6 (b1Q a d at_ h2) ?_;refine go 3 ?_;refine i0Y gFd (by omega) fun b cap hv' hcap=> ?_;simp only[dkC,dkR];rw[hv'];refine go 8 ?_;refine a0D (a0U Sc.o rfl gFd (by rw[show 0+at_.toNat*2+1=2*at_.toNat+1 by omega];exact hat.2)) ?_;refine go 3 ?_;rw[←hv'];exact rR idh rfl
end Go.Proofs.Q
namespace Go.Proofs.Q
section
open Go.Sl Go.Sb Tryz
end
end Go.Proofs.Q
namespace Go.Proofs.Q
open Go.Sl Go.Sb Tryz
theorem d0M {a:Ad} {by_:Nat} {gv:Value} {gc:List (Nat×Obj)} {s:St} :TT a by_ gv gc s= [i0A a by_ gv s.keep,b0D (h0O gc),b0L by_ a0J a0J s.young,b0L a.refs a0J a0J s.refs,b0L a.ix e0C a0J s.index,b0L a.vols e0H d0Z s.vols,r0Q a s.next s.epoch,
 pts a.gr (.cells (l0F s.fr a.grl s.g).toArray 192 (0,0)),pts a.grl (.cells (s.g.map gst).toArray 3 (0,0))]:=rfl
theorem d2K (a:Ad) (s:St):a0F prog 17 #[ptr a.heap] [HL a s] (a0T (.int .i64 (b0K s)) [HL a s]):=by
 refine en func17 ntmps17 fun R w0=> ?_;refine e0J gFd fun by_ gv gc o hg hok=> ?_;simp only[d0M,c0Y,List.cons_append,List.nil_append];refine cg 11 (v0T a.gr a.grl s.fr s.g) ?_;refine go 3 ?_;refine b0V (d0A hg hok gSp) (f1A idh rfl rfl gSp)
theorem d2L (a:Ad) (s:St):a0F prog 20 #[ptr a.heap] [HL a s] (a0T (.int .i64 (q2E s)) [HL a s]):=by
 refine en func20 ntmps20 fun R w0=> ?_;refine e0J gFd fun by_ gv gc o hg hok=> ?_;simp only[d0M,c0Y,List.cons_append,List.nil_append];refine cg 11 (c2Z a.gr a.grl s.fr s.g) ?_;refine go 3 ?_;refine b0V (d0A hg hok gSp) (f1A idh rfl rfl gSp)
theorem o1V (a:Ad) (s:St):a0F prog 106 #[ptr a.log] [HL a s] (a0T (.int .i64 s.depth) [HL a s]):=by
 refine en func106 ntmps106 fun R w0=> ?_;refine e0J gFd fun by_ gv gc o hg hok=> ?_;refine x0O gFd fun v vals hlk hdp hv1=> ?_;refine go 14 ?_;refine b0V (p0P hlk hdp gSp) (b0V (d0A hg hok gSp) (f1A idh rfl rfl gSp))
theorem e1B (W:World) (a:Ad) (s:St) (at_:Int):a0F prog 152 #[ptr a.heap,.int .i64 at_] (RS W a s) (Ran fT (RS W a) b0B (h0P at_ s)):=by
 by_cases h0:d0K s at_=0
 ·have e:h0P at_ s=(.err 6,s):=by simp[h0P,h0]
  rw[e];have h0':(a0E at_ s.refs).getD 0=0:=h0;refine en func152 ntmps152 fun R w0=> ?_;refine e0J gFd fun by_ gv gc o hg hok=> ?_;simp only[d0M,c0Y,List.cons_append,List.nil_append];refine go 13 ?_;refine a0D (f0P (ek:=a0J) (ev:=a0J) d0I.o i0T (tt fun _=>trivial) trivial Zr.o rfl rfl gFd f0J) ?_;refine go 3 ?_;refine d0R rfl (decide_eq_true h0') ?_;refine go 1 ?_;refine c0G rfl Hb.o rfl (c0S 6) gSp ?_;refine ns ?_;refine pn ?_;refine b0G (d0A hg hok gSp) (e0A idh (a0Z.back gSp) ⟨rfl,rfl⟩)
 ·have e:h0P at_ s=(n0F s.d at_,s):=by simp[h0P,h0]
  have h0': ¬(a0E at_ s.refs).getD 0=0:=h0;rw[e];have hr:=d2J a s.d at_;cases hd:n0F s.d at_ with
  |big=>simp[n0F]at hd;split at hd<;>(try split at hd)<;>cases hd
  |ok b=>
   rw[hd]at hr;refine en func152 ntmps152 fun R w0=> ?_;refine e0J gFd fun by_ gv gc o hg hok=> ?_;simp only[d0M,c0Y,List.cons_append,List.nil_append];refine go 13 ?_;refine a0D (f0P (ek:=a0J) (ev:=a0J) d0I.o i0T (tt fun _=>trivial) trivial Zr.o rfl rfl gFd f0J) ?_;refine go 3 ?_;refine b0R rfl (decide_eq_false h0') ?_;refine cg 9 (hr.ran_ok) ?_;refine go 3 ?_;refine b0V (d0A hg hok gSp) (p0I rfl idh rfl rfl gSp)
  |err e'=>
   rw[hd]at hr;refine en func152 ntmps152 fun R w0=> ?_;refine e0J gFd fun by_ gv gc o hg hok=> ?_;simp only[d0M,c0Y,List.cons_append,List.nil_append];refine go 13 ?_;refine a0D (f0P (ek:=a0J) (ev:=a0J) d0I.o i0T (tt fun _=>trivial) trivial Zr.o rfl rfl gFd f0J) ?_;refine go 3 ?_;refine b0R rfl (decide_eq_false h0') ?_;refine go 9 ?_;refine c0G rfl Hb.o rfl (hr) gSp ?_;refine ns ?_;refine pn ?_;refine b0G (d0A hg hok gSp) (e0A idh (a0Z.back gSp) ⟨rfl,rfl⟩)
theorem o1W (x:Int):IntKind.i64.wrap x=m0L x:=by rw[IntKind.wrap_i64];rfl
theorem z0D {s:St} {k v:Int} (h:(g0R k v s).1≠ .big):s.log.length<1000000000:=by
 rcases Nat.lt_or_ge s.log.length 1000000000 with h'|h'
 ·exact h'
 ·exact(h (by simp[g0R,a0B,back,h'])).elim
theorem v0U {s:St} (k v:Int) (h:s.log.length<1000000000):g0R k v s=(.ok (),{s with log:=bk s.depth s.log (.refs k (a0E k s.refs)),refs:=b0T k v s.refs}):=by
 simp[g0R,a0B,back,show ¬1000000000≤s.log.length by omega]
theorem x1K {s:St} (k v:Int) (h:s.log.length<1000000000):l0N k v s=(.ok (),{s with log:=bk s.depth s.log (.young k (a0E k s.young)),young:=b0T k v s.young}):=by
 simp[l0N,a0B,back,show ¬1000000000≤s.log.length by omega]
theorem d2M {s:St} (v:Int) (h:s.log.length<1000000000):w0C v s=(.ok (),{s with log:=bk s.depth s.log (.keep s.keep),keep:=v}):=by
 simp[w0C,a0B,back,show ¬1000000000≤s.log.length by omega]
theorem a2A {s:St} {α:Type} {o:Out α×St} (h:o.1≠ .big) (hb:1000000000≤s.log.length→o.1= .big):s.log.length<1000000000:=by
 rcases Nat.lt_or_ge s.log.length 1000000000 with h'|h'
 ·exact h'
 ·exact(h (hb h')).elim
theorem b1R (W:World) (a:Ad) (s:St) (at_:Int) (hnb:(k0E at_ s).1≠ .big):a0F prog 201 #[ptr a.heap,.int .i64 at_] (RS W a s) (Ran fT (RS W a) k0I (k0E at_ s)):=by
 by_cases h0:d0K s at_=0
 ·have e:k0E at_ s=(.err 6,s):=by simp[k0E,h0]
  rw[e];have h0':(a0E at_ s.refs).getD 0=0:=h0;refine en func201 ntmps201 fun R w0=> ?_;refine e0J gFd fun by_ gv gc o hg hok=> ?_;simp only[d0M,c0Y,List.cons_append,List.nil_append];refine go 8 ?_;refine a0D (f0P (ek:=a0J) (ev:=a0J) d0I.o i0T (tt fun _=>trivial) trivial Zr.o rfl rfl gFd f0J) ?_;refine go 3 ?_;refine d0R rfl (decide_eq_true h0') ?_;refine go 1 ?_;refine c0G rfl Hb.o rfl (c0S 6) gSp ?_;refine ns ?_;refine pn ?_;refine b0G (d0A hg hok gSp) (e0A idh (a0Z.back gSp) ⟨rfl,rfl⟩)
 ·have e1:k0E at_ s=g0R at_ (m0L (d0K s at_+1)) s:=by simp[k0E,h0]
  rw[e1]at hnb;have hn:=z0D hnb;rw[v0U _ _ hn]at e1;rw[e1];have h0': ¬(a0E at_ s.refs).getD 0=0:=h0;refine en func201 ntmps201 fun R w0=> ?_;refine e0J gFd fun by_ gv gc o hg hok=> ?_;simp only[d0M,c0Y,List.cons_append,List.nil_append];refine go 8 ?_;refine a0D (f0P (ek:=a0J) (ev:=a0J) d0I.o i0T (tt fun _=>trivial) trivial Zr.o rfl rfl gFd f0J) ?_;refine go 3 ?_;refine b0R rfl (decide_eq_false h0') ?_;refine go 2 ?_;refine tl 16 ?_;refine go 14 ?_;refine b0X (f0P (ek:=a0J) (ev:=a0J) d0I.o i0T (tt fun _=>trivial) trivial Zr.o rfl rfl gFd f0J) ?_;refine b0X (j1H rfl rfl) ?_;refine go 1 ?_;rw[o1W];refine d0S rfl Hb.o rfl (p0Q a by_ o s.log s.depth a.refs s.refs at_ (m0L (d0K s at_+1)) (.refs at_ (a0E at_ s.refs)) hn (fun _ _ _ _=>⟨_,_,_,_,.inl rfl,rfl⟩)) gSp ?_;rintro e _;refine ns ?_;refine go 1 ?_;refine b0G (d0A (s:= {s with log:=bk s.depth s.log (.refs at_ (a0E at_ s.refs)),refs:=b0T at_ (m0L (d0K s at_+1)) s.refs}) hg hok gSp) (w0D rfl rfl rfl gSp)
theorem k1T (W:World) (a:Ad) (s:St) (n:Int) (hnb:(o0A n s).1≠ .big):a0F prog 117 #[ptr a.heap,.int .i64 n] (RS W a s) (Ran fT (RS W a) k0I (o0A n s)):=by
 have hn:s.log.length<1000000000:=a2A hnb fun h=>by simp[o0A,w0C,a0B,back,h]
 rw[show o0A n s=_ from d2M (max n 0) hn];refine en func117 ntmps117 fun R w0=> ?_;refine e0J gFd fun by_ gv gc o hg hok=> ?_;simp only[d0M,c0Y,List.cons_append,List.nil_append];refine tl 9 ?_;refine ce 10 (x1E a by_ o s.log s.depth gv s.keep (max n 0) hn) ?_;rintro e _;refine ns ?_;refine go 1 ?_;refine b0G (d0A (s:= {s with log:=bk s.depth s.log (.keep s.keep),keep:=max n 0}) hg hok gSp) (w0D rfl rfl rfl gSp)
def f1P (fr:Nat) (g:List Nat) (x:Int):List Nat:=mvL fr (mvL fr g x 2 1) x 1 0
def gAt (s:St) (i:Nat):List Nat:=(s.gone.take i).foldl (f1P s.fr) s.g
theorem n2H (s:St) (i:Nat) (h:i<s.gone.length):gAt s (i+1)=f1P s.fr (gAt s i) s.gone[i]:=by
 unfold gAt;rw[List.take_succ,List.getElem?_eq_getElem h,List.foldl_append];rfl
theorem i2D (s:St) (hok:n0W s) (i:Nat):(gAt s i).length=s.g.length∧ ∀x∈gAt s i,x<3:=by
 unfold gAt;generalize s.gone.take i=l;have key: ∀(l:List Int) (g:List Nat),(∀x∈g,x<3)→(l.foldl (f1P s.fr) g).length=g.length∧ ∀x∈l.foldl (f1P s.fr) g,x<3:=by
  intro l
  induction l with
  |nil=>intro g h;exact⟨rfl,h⟩
  |cons y l ih=>
   intro g h;have:=ih (f1P s.fr g y) (w0O (by omega) (w0O (by omega) h));exact⟨by rw[List.foldl_cons,this.1];simp[f1P,w0N],this.2⟩
 exact key l s.g hok.2.2.1
theorem x1L (s:St):t0L s= {s with g:=gAt s s.gone.length,gone:= []} :=by simp[t0L,gAt];rfl
theorem b0Y {w:World} {M:List a0C} (h:Sat w M):Sat w (b0D []::M):=b0J.2 h
theorem s2X {cur:List Value} {l:List Int} (h:cur.take l.length=l.map a0J) {i k:Nat} (hi:i<l.length) (hk:k=i):nth cur k=some (.int .i64 l[i]):=by
 subst hk;rw[d0Y];have:(cur.take l.length)[k]? =some (a0J l[k]):=by rw[h];simp[hi]
 rw[List.getElem?_take_of_lt hi]at this;exact this
theorem m1Z (a:Ad) (s:St):a0F prog 107 #[ptr a.heap] [HL a s] (a0T (.tuple #[]) [HL a (t0L s)]):=by
 rw[x1L];refine en func107 ntmps107 fun R w0=> ?_;refine e0J gFd fun by_ gv gc o hg hok=> ?_;simp only[d0M,c0Y,List.cons_append,List.nil_append];obtain⟨hgr,⟨hg0,rfl,rfl⟩| ⟨g,cap,cur,rfl,hcap,hmx,hcl,htk,rfl⟩⟩:=hg
 ·refine go 12 ?_;refine a0V (X:=Unit) (fun _=> [(0,ptr a.heap),(7,.slice none 0 0),(8,.int .i64 0),(9,.int .i64 0)]) (fun _=> [i0A a by_ (.slice none 0 0) s.keep,e0E a by_ o s.log s.depth,b0D (h0O []),b0L by_ a0J a0J s.young,b0L a.refs a0J a0J s.refs,b0L a.ix e0C a0J s.index,b0L a.vols e0H d0Z s.vols,r0Q a s.next s.epoch,pts a.gr (.cells (l0F s.fr a.grl s.g).toArray 192 (0,0)),pts a.grl (.cells (s.g.map gst).toArray 3 (0,0)),R]) (fun _=>0) () gSu gSp ?_;rintro x m0 hm0
  try simp only at hm0
  try dsimp only
  skip;refine go 15 ?_;rw[show gAt s s.gone.length=s.g by simp[gAt,hg0]];refine b0G (d0A (s:= {s with g:=s.g,gone:= []}) (gv:= .slice none 0 0) (gc:= []) ⟨by simp,.inl ⟨rfl,rfl,rfl⟩⟩ hok gSp) (d0W rfl rfl gSp)
 ·try simp only[h0O,List.map_cons,List.map_nil]
  refine b0V (L':=pts g (.cells cur.toArray 3 (0,0)):: [i0A a by_ (.slice (some ⟨g,0,none⟩) s.gone.length cap) s.keep,e0E a by_ o s.log s.depth,b0L by_ a0J a0J s.young,b0L a.refs a0J a0J s.refs,b0L a.ix e0C a0J s.index,b0L a.vols e0H d0Z s.vols,r0Q a s.next s.epoch,pts a.gr (.cells (l0F s.fr a.grl (gAt s 0)).toArray 192 (0,0)),pts a.grl (.cells ((gAt s 0).map gst).toArray 3 (0,0)),R]) (fun w h=> ?_) ?_
  ·have h1:=b0J.1 ((show Fnd _ (b0D _) _ from gFd).sat h);exact h1.re gSp
  have hgl:=fun i=>(i2D s hok i).1;have hm2:s.gone.length≤9223372036854775807:=by simp only[maxLen]at hmx;omega
  try simp only[c0Y]
  refine go 12 ?_;refine a0V (X:= {i:Nat // i≤s.gone.length}) (fun x=> [(0,ptr a.heap),(7,.slice (some ⟨g,0,none⟩) s.gone.length cap),(8,.int .i64 s.gone.length),(9,.int .i64 x.1)]) (fun x=> [pts g (.cells cur.toArray 3 (0,0)),i0A a by_ (.slice (some ⟨g,0,none⟩) s.gone.length cap) s.keep,e0E a by_ o s.log s.depth,b0L by_ a0J a0J s.young,b0L a.refs a0J a0J s.refs,b0L a.ix e0C a0J s.index,b0L a.vols e0H d0Z s.vols,r0Q a s.next s.epoch]++gm a.gr a.grl s.fr (gAt s x.1)++ [R]) (fun x=>s.gone.length-x.1) ⟨0,by omega⟩ gSu gSp ?_;rintro⟨i,hi⟩ m0 hm0
  try simp only at hm0
  try dsimp only
  simp only[c0Y,List.cons_append,List.nil_append];refine go 6 ?_;refine a0P rfl (fun hb10=> ?_) (fun hb10=> ?_)
  ·have hil:i<s.gone.length:=by have:=of_decide_eq_true hb10;omega
   have hlt:(gAt s i).length≤5000:=by rw[hgl];exact hok.2.1
   refine go 7 ?_;refine a0D (b0M Sc.o rfl (s2X htk hil (by omega))) ?_;refine go 10 ?_;refine b0U rfl Hb.o rfl (k1R a.gr a.grl s.fr (gAt s i) s.gone[i] (x0P (hgr _ (List.getElem_mem hil))) hok.1 hlt) gSp ?_;refine ns ?_;refine go 8 ?_;refine b0U rfl Hb.o rfl (k1Q a.gr a.grl s.fr (mvL s.fr (gAt s i) s.gone[i] 2 1) s.gone[i] (x0P (hgr _ (List.getElem_mem hil))) hok.1 (by rw[w0N];exact hlt)) gSp ?_;refine ns ?_;refine go 1 ?_;rw[show mvL s.fr (mvL s.fr (gAt s i) s.gone[i] 2 1) s.gone[i] 1 0=gAt s (i+1)from(n2H s i hil).symm];refine go 5 ?_;exact rd idh (⟨i+1,hil⟩)
  ·have hil:i=s.gone.length:=by have:=of_decide_eq_false hb10;omega
   subst hil;have hok':n0W {s with g:=gAt s s.gone.length,gone:= []} :=⟨hok.1,by show(gAt s _).length≤_;rw[hgl];exact hok.2.1,(i2D s hok _).2,hok.2.2.2⟩;refine go 8 ?_;refine b0G (fun w h=>b0Y h) (b0G (d0A (s:= {s with g:=gAt s s.gone.length,gone:= []}) (by_:=by_) (o:=o) (gv:= .slice none 0 0) (gc:= []) ⟨by simp,.inl ⟨rfl,rfl,rfl⟩⟩ hok' gSp) (d0W rfl rfl gSp))
theorem k1U {C:Type} (run:Run (St×C) Unit) (x:St×C) (e:Int) (y:St×C):n0S run x≠(.err e,y):=by
 unfold n0S;split
 ·intro h;cases h
 ·split
  ·split<;>(intro h;cases h)
  ·split<;>(intro h;cases h)
  ·intro h;cases h
theorem t0D {C:Type} (W:World) (a:Ad) (RC:C→a0C) (g:FuncId) (cap:List Value) (run:Run (St×C) Unit) (s:St) (c:C) (hb:e0Y prog g=true) (hnb:(n0T run (s,c)).1≠ .big)
 (hrun:(run ({s with depth:=s.depth+1},c)).1≠ .big→a0F prog g cap.toArray (RS W a {s with depth:=s.depth+1} ++ [RC c]) (Ran fT (fun x=>RS W a x.1++ [RC x.2]) (fun _=> .tuple #[]) (run ({s with depth:=s.depth+1},c)))):
 a0F prog 50 #[ptr a.heap,.func (.func g) #[] cap.toArray] (RS W a s++ [RC c]) (Ran fT (fun x=>RS W a x.1++ [RC x.2]) (fun e=> .int .i64 e) (n0T run (s,c))):=by
 have hl:=x1J W a RC g cap run s c hb (c0I hnb) hrun;cases ho:n0S run (s,c)with
 |mk x y=>
 obtain⟨t,c'⟩:=y;rw[ho]at hl;cases x with
 |big=>exact(c0I hnb (by rw[ho])).elim
 |err e=>exact(k1U _ _ _ _ ho).elim
 |ok e=>
  have hl':=hl.ran_ok;by_cases h0:t.depth=0
  ·have htr:n0T run (s,c)=(.ok e,(t0L t,c')):=by simp[n0T,a0B,ho,h0]
   rw[htr];refine en func50 ntmps50 fun R w0=> ?_;refine e0J gFd fun by_ gv gc o hgo hok=> ?_;simp only[d0M,c0Y,List.cons_append,List.nil_append];refine go 6 ?_;skip;refine go 6 ?_;refine e0K (d0A hgo hok gSp) (b0U rfl Hb.o rfl (hl') gSp ?_);refine ns ?_;refine go 5 ?_;refine e0J gFd fun by2 gv2 gc2 o2 hgo2 hok2=> ?_;simp only[d0M,c0Y,List.cons_append,List.nil_append];refine go 5 ?_;refine e0K (d0A hgo2 hok2 gSp) (b0U rfl Hb.o rfl (o1V a t) gSp ?_);refine ns ?_;refine go 3 ?_;refine d0R rfl (by rw[h0];rfl) ?_;refine cg 2 (m1Z a t) ?_;refine go 8 ?_;exact rR idh rfl
  ·have htr:n0T run (s,c)=(.ok e,(t,c')):=by simp[n0T,a0B,ho,h0]
   rw[htr];refine en func50 ntmps50 fun R w0=> ?_;refine e0J gFd fun by_ gv gc o hgo hok=> ?_;simp only[d0M,c0Y,List.cons_append,List.nil_append];refine go 12 ?_;refine e0K (d0A hgo hok gSp) (b0U rfl Hb.o rfl (hl') gSp ?_);refine ns ?_;refine go 5 ?_;refine e0J gFd fun by2 gv2 gc2 o2 hgo2 hok2=> ?_;simp only[d0M,c0Y,List.cons_append,List.nil_append];refine go 5 ?_;refine e0K (d0A hgo2 hok2 gSp) (b0U rfl Hb.o rfl (o1V a t) gSp ?_);refine ns ?_;refine go 3 ?_;refine b0R rfl (decide_eq_false (by omega)) ?_;refine go 8 ?_;exact rR idh rfl
theorem t0E {n:Nat} {α S:Type} {o:Out α×S} (h:o.1≠ .big) (hb:1000000000≤n→o.1= .big):n<1000000000:=by
 rcases Nat.lt_or_ge n 1000000000 with h'|h'
 ·exact h'
 ·exact(h (hb h')).elim
theorem g1O {s:St} (k:Int) (h:s.log.length<1000000000):k0P k s=(.ok (),{s with log:=bk s.depth s.log (.refs k (a0E k s.refs)),refs:=b0C k s.refs}):=by
 simp[k0P,a0B,back,show ¬1000000000≤s.log.length by omega]
theorem e1C {s:St} (k:Int) (h:s.log.length<1000000000):f0D k s=(.ok (),{s with log:=bk s.depth s.log (.young k (a0E k s.young)),young:=b0C k s.young}):=by
 simp[f0D,a0B,back,show ¬1000000000≤s.log.length by omega]
theorem d2N {s:St} (l:List Int) (hl:l.length<1000000000) (h:s.log.length<1000000000):h0D l s=(.ok (),{s with log:=bk s.depth s.log (.gone s.gone),gone:=l}):=by
 simp[h0D,a0B,back,show ¬1000000000≤s.log.length by omega,show ¬1000000000≤l.length by omega]
theorem n1A {s:St} (st:c0P) (h:s.log.length<1000000000):back st s=(.ok (),{s with log:=bk s.depth s.log st}):=by
 simp[back,show ¬1000000000≤s.log.length by omega]
theorem t1T {s:St} {st:c0P} (h:(back st s).1≠ .big):s.log.length<1000000000:=by
 rcases Nat.lt_or_ge s.log.length 1000000000 with h'|h'
 ·exact h'
 ·exact(h (by simp[back,h'])).elim
theorem o1X {s:St} {k:Int} (h:(e0B k s).1≠ .big):inR k=true:=by
 cases hi:inR k with
 |true=>rfl
 |false=>exact(h (by simp[e0B,hi])).elim
theorem i2E {s:St} {k:Int} (hnb:(e0B k s).1≠ .big) (h1:d0K s k=1):
 inR k=true∧s.log.length<1000000000∧(bk s.depth s.log (.refs k (a0E k s.refs))).length<1000000000∧
 (let l2:=bk s.depth (bk s.depth s.log (.refs k (a0E k s.refs))) (.back k)
  if 0<h0E s k then s.gone.length+1<1000000000∧l2.length<1000000000∧(bk s.depth l2 (.young k (a0E k s.young))).length<1000000000∧
   e0B k s=(.ok true,{s with refs:=b0C k s.refs,g:=mvL s.fr s.g k 1 2,young:=b0C k s.young,gone:=s.gone++ [k],log:=bk s.depth (bk s.depth l2 (.young k (a0E k s.young))) (.gone s.gone)})
   else e0B k s=(.ok true,{s with refs:=b0C k s.refs,g:=mvL s.fr s.g k 1 2,log:=l2})):=by
 have hi:=o1X hnb;have e1:e0B k s=a0B (k0P k) (fun _=>a0B (fun s=>back (.back k) {s with g:=mvL s.fr s.g k 1 2}) fun _=>
  a0B (fun s=>if 0<h0E s k then a0B (f0D k) (fun _ s=>h0D (s.gone++ [k]) s) s else ret () s) fun _=>ret true) s:=by
  simp[e0B,hi,h1]
 rw[e1]at hnb;have a1:s.log.length<1000000000:=a2A (c0I hnb) fun h=>by simp[k0P,a0B,back,h]
 have b1:=o0S hnb (g1O k a1);have a2:=t1T (c0I b1);have b2:=o0S b1 (n1A _ a2);refine⟨hi,a1,a2,?_⟩;simp only;rw[e1,a0A (g1O k a1),a0A (m:=fun s=>back (.back k) {s with g:=mvL s.fr s.g k 1 2}) (n1A (s:= {s with refs:=b0C k s.refs,g:=mvL s.fr s.g k 1 2,log:=bk s.depth s.log (.refs k (a0E k s.refs))}) (.back k) a2)];have b3:=c0I b2;split
 ·rename_i hy;have hy':0<h0E {s with refs:=b0C k s.refs,g:=mvL s.fr s.g k 1 2,log:=bk s.depth (bk s.depth s.log (.refs k (a0E k s.refs))) (.back k)} k:=hy;rw[if_pos hy']at b3;have a3:=t0E (n:=(bk s.depth (bk s.depth s.log (.refs k (a0E k s.refs))) (.back k)).length) (c0I b3) fun h=>by simp[f0D,a0B,back,h]
  have b4:=o0S b3 (e1C k a3);have a4:=t0E (n:=(bk s.depth (bk s.depth (bk s.depth s.log (.refs k (a0E k s.refs))) (.back k)) (.young k (a0E k s.young))).length) b4 fun h=>by simp only[h0D];split<;>simp[a0B,back,h]
  have a5:=t0E (n:=(s.gone++ [k]).length) b4 fun h=>by rw[h0D,if_pos h]
  refine⟨by simpa using a5,a3,a4,?_⟩;have e:(fun s=>if 0<h0E s k then a0B (f0D k) (fun _ s=>h0D (s.gone++ [k]) s) s else ret () s) {s with refs:=b0C k s.refs,g:=mvL s.fr s.g k 1 2,log:=bk s.depth (bk s.depth s.log (.refs k (a0E k s.refs))) (.back k)} =
   (.ok (),{s with refs:=b0C k s.refs,g:=mvL s.fr s.g k 1 2,young:=b0C k s.young,gone:=s.gone++ [k],log:=bk s.depth (bk s.depth (bk s.depth (bk s.depth s.log (.refs k (a0E k s.refs))) (.back k)) (.young k (a0E k s.young))) (.gone s.gone)}):=by
   simp only[if_pos hy'];rw[a0A (e1C k a3),d2N _ a5 a4]
  rw[a0A e];rfl
 ·rename_i hy;have hy': ¬0<h0E {s with refs:=b0C k s.refs,g:=mvL s.fr s.g k 1 2,log:=bk s.depth (bk s.depth s.log (.refs k (a0E k s.refs))) (.back k)} k:=hy;have e:(fun s=>if 0<h0E s k then a0B (f0D k) (fun _ s=>h0D (s.gone++ [k]) s) s else ret () s) {s with refs:=b0C k s.refs,g:=mvL s.fr s.g k 1 2,log:=bk s.depth (bk s.depth s.log (.refs k (a0E k s.refs))) (.back k)} =
   (.ok (),{s with refs:=b0C k s.refs,g:=mvL s.fr s.g k 1 2,log:=bk s.depth (bk s.depth s.log (.refs k (a0E k s.refs))) (.back k)}):=by
   simp only[if_neg hy'];rfl
  rw[a0A e];rfl
end Go.Proofs.Q

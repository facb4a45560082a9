/- Part of the proof; no statement of its own. -/
import Derived.Test.YtpinhnikemamjaaGreatDoorB31
set_option linter.all false
set_option maxRecDepth 4000
set_option maxHeartbeats 4000000
namespace Go.Sb
section
def UMe {α:Type} (m:M α):Prop:= ∀s,0<s.depth→UOK s→(m s).1≠ .big→ ∃c k,Rel c k s (m s).2
section
variable {α β:Type}
theorem UM.ex {c k:Nat} {m:M α} (h:UM c k m):UMe m:=fun s hd hs hb=>⟨c,k,h s hd hs hb⟩
theorem i0K {m:M α} {f:α→M β} (h:UMe m) (hf: ∀a,UMe (f a)):UMe (a0B m f):=fun s hd hs hb=>by
 obtain⟨c,k,h1⟩:=h s hd hs (c0R hb)
 cases e:m s with
 |mk o t=>
  rw[e]at h1
  cases o with
  |ok a=>have h2:=o0E hb e;rw[a0A e];obtain⟨c',k',h3⟩:=hf a t (by rw[h1.depth];exact hd) h1.ok h2;exact⟨_,_,h1.trans h3⟩
  |err e'=>rw[a0Q e];exact⟨c,k,h1⟩
  |big=>exact(c0R hb (by rw[e])).elim
theorem d1E {p:Prop} [Decidable p] {m n:M α} (h:UMe m) (j:UMe n):UMe (if p then m else n):=by split<;>assumption
theorem y1Q:UMe (fun s=>(.big,s):M α):=fun s _ _ hb=>(hb rfl).elim
theorem t1N (e:Int):UMe (n0F e:M α):=(v0K e).ex
theorem q2I (a:α):UMe (ret a:M α):=(d0G a).ex
theorem x0R (x:Ent) (at_:Nat) {data:B} (h:data.length%64=0):UMe (e0U x at_ data):=(q1S data.length x at_ data (data.length/64) (by omega) h).ex
theorem c2T (root:Int) (a b:Nat):UMe (l0E root a b):=fun s _ hs hb=>by
 unfold l0E at hb ⊢
 split
 ·exact⟨0,0,Rel.refl hs⟩
 ·exact⟨0,0,Rel.refl hs⟩
theorem h2K (root:Int) (a b:Nat):UMe (j0P root a b):=i0K (c2T root a b) fun l=>(w1W (fun r (x:Nat×Int)=>x1A r x.1 0) l root).ex
theorem j1O (x:Ent) (fr u:Nat):UMe (h0F x fr u):=by
 unfold h0F
 refine d1E y1Q (d1E (x0R _ _ (by rw[f0W];omega)) (i0K (x0R _ _ (by rw[f0W];omega)) fun y=>i0K (h2K _ _ _) fun r=>x0R _ _ (by rw[f0W];omega)))
theorem a1R (x:Ent) (a n:Int):UMe (g0T x a n):=d1E y1Q (e2Q x a n).ex
theorem u0H (id at_:Int) (data:B):UMe (h0Y id at_ data):=i0K (f1V id).ex fun x=>by
 by_cases h:data.length%64≠0
 ·rw[if_pos h];exact t1N 4
 ·rw[if_neg h];exact i0K (a1R _ _ _) fun _=>i0K (x0R _ _ (by omega)) fun y=>(v0L y).ex
theorem a1S (id at_ n:Int):UMe (q0K id at_ n):=i0K (f1V id).ex fun x=>i0K (a1R _ _ _) fun _=>i0K (j1O _ _ _) fun y=>(v0L y).ex
theorem v0A (id size:Int):UMe (l0F id size):=i0K (f1V id).ex fun x=>d1E (t1N 4) (i0K (d1E (j1O _ _ _) (q2I _)) fun y=>(v0L _).ex)
theorem c2U (id:Int):UMe (p0H id):=i0K (k1R id).ex fun x=>i0K (e1Q id).ex fun _=>(f1T x.root 2).ex
theorem t1O (id at_ n:Int):UMe (n0P id at_ n):=i0K (k1R id).ex fun x=>i0K (a1R _ _ _) fun _=>by
 have: ∀(k:Nat) (y:Ent) (a m:Nat),UM 0 0 (j0J k y a m):=fun k=>by
  induction k with
  |zero=>intro y a m;exact d0G _
  |succ k ih=>intro y a m;unfold j0J;exact k0Q (d0G _) (c0L (x1B _ _) fun b=>c0L (ih _ _ _) fun r=>d0G _)
 exact(this _ _ _ _).ex
end
structure o1P (s s':St) (G:Gh):Prop where
 ci:CI s' G
 perm:s'.vols.Perm s.vols
 vols:meq s'.vols s.vols
 bits:s'.bits=s.bits
 next:s'.next=s.next
 epoch:s'.epoch=s.epoch
 room:b0U s≤b0U s'
section
variable {s:St} {G:Gh}
theorem CI.still (h:CI s G):o1P s s G:=⟨h,List.Perm.refl _,fun _=>rfl,rfl,rfl,rfl,Nat.le_refl _⟩
theorem CI.failed {α:Type} {m:M α} {er:Int} {t:St} (h:CI s G) (hu:UMe m) (e:m (Go.Sb.start s 0)=(.err er,t)) (her:er≠0):
 ∃s',i0I (Go.Sb.e0V 0 m) s=(.ok (er,.lost),s')∧o1P s s' G:=by
 obtain⟨i1,_⟩:=h.start 0
 obtain⟨c,k,r⟩:=hu (Go.Sb.start s 0) Nat.zero_lt_one i1.u (by rw[e];simp)
 rw[e]at r
 have e0:Go.Sb.e0V 0 m {s with depth:=1} =(.err er,t):=by rw[h.roomC (.inl rfl)];exact e
 have r3:=(h.rel 0).trans r
 obtain⟨u1,u2,u3,u4,u5,u6,u7⟩:=h.undone r3
 exact⟨_,g1R h e0 her r3,u1,u2,u3,u4,u5,u6,u7⟩
theorem CI.failed0 {α:Type} {m:M α} {er:Int} {t:St} (h:CI s G) (hu:UMe m) (e:m {s with depth:=1} =(.err er,t)) (her:er≠0): ∃s',i0I m s=(.ok (er,.lost),s')∧o1P s s' G:=by
 obtain⟨c,k,r⟩:=hu {s with depth:=1} Nat.zero_lt_one h.deep.u (by rw[e];simp)
 rw[e]at r
 obtain⟨u1,u2,u3,u4,u5,u6,u7⟩:=h.undone r
 exact⟨_,g1R h e her r,u1,u2,u3,u4,u5,u6,u7⟩
theorem CI.mem (h:CI s G) {id:Int} {x:Ent} (hx:a0H id s.vols=some x):(id,x)∈s.vols:=(g0X h.inv.u.m.vols).1 hx
def k0M (s:St) (id:Int):List Int:=(b0I id s.vols).map (·.2.root)
theorem CI.roots (h:CI s G) {id:Int} {x:Ent} (hx:a0H id s.vols=some x):Inv (Go.Sb.start s 0) G (x.root::k0M s id):=by
 obtain⟨i1,_⟩:=h.start 0
 exact i1.perm fun y _=>(((o0C hx).map (fun p:Int×Ent=>p.2.root)).count_eq y)
theorem CI.othersKid (h:CI s G) (id:Int): ∀p∈k0M s id,b0K G 3 p:=fun p hp=>by
 obtain⟨q,hq,rfl⟩:=List.mem_map.1 hp
 exact h.kid _ (n0B hq)
theorem CI.othersLen (h:CI s G) {id:Int} {x:Ent} (hx:a0H id s.vols=some x):(k0M s id).length≤16:=by
 have h1:=(o0C hx).length_eq
 simp only[List.length_cons]at h1
 have:=h.few
 unfold k0M;rw[List.length_map];omega
theorem j1P (s:St) (G:Gh) (id:Int):(k0M s id).map (b0D G)=n0C s G id:=by unfold k0M;rw[List.map_map];rfl
theorem CI.edited {m:M Unit} {f:M Ent} {id:Int} {x y:Ent} {u:St} {G':Gh} {C K:Nat} (h:CI s G) (hx:a0H id s.vols=some x) (e0:m (Go.Sb.start s 0)=a0B f l0K (Go.Sb.start s 0)) (ef:f (Go.Sb.start s 0)=(.ok y,u)) (hyid:y.id=id) (hys:1≤y.size∧y.size≤2048)
 (i2:Inv u G' (y.root::k0M s id)) (t2:Stp C K (Go.Sb.start s 0) G u G') (k2:b0K G' 3 y.root) (k3: ∀p∈k0M s id,b0K G' 3 p∧b0D G' p=b0D G p) (hC:C≤900000000):
 ∃s',i0I (Go.Sb.e0V 0 m) s=(.ok (0,.done ()),s')∧CI s' G'∧s'.vols=c0F id y s.vols∧(∀p∈b0I id s.vols,b0D G' p.2.root=b0D G p.2.root)∧s'.next=s.next∧s'.epoch=s.epoch∧s'.bits=s.bits∧b0U s≤b0U s'+K:=by
 have hd:u.depth=1:=t2.rel.depth
 have hlog:u.log.length<1000000000:=by have:=t2.rel.len;have h1:(Go.Sb.start s 0).log.length=1:=rfl;omega
 have hu:u.vols=s.vols:=t2.vols
 have e2:Go.Sb.e0V 0 m {s with depth:=1} =(.ok (),n0D id y u):=by
  rw[h.roomC (.inl rfl),e0,a0A ef,v0R hlog,hyid]
 have r2:Rel 1 0 u (n0D id y u):=by
  have:=v0L y u (by omega) i2.u (by rw[v0R hlog];simp)
  rw[v0R hlog,hyid]at this
  exact this
 have r3:=(h.rel 0).trans (t2.rel.trans r2)
 have e3:=r0U h e2 r3
 have hvol:(n0D id y u).vols=c0F id y s.vols:=by show c0F _ _ u.vols=_;rw[hu]
 have hpp:=u0G (w:=y) hx
 have i3:Inv (n0D id y u) G' (y.root::k0M s id):=i2.other rfl rfl rfl rfl rfl ⟨i2.u.m.refs,i2.u.m.young,i2.u.m.index,n0J _ _ i2.u.m.vols⟩ i2.u.keep
 have i4:Inv (n0D id y u) G' (j0A (n0D id y u)):=by
  unfold j0A;rw[hvol]
  exact i3.perm fun z _=>by rw[(hpp.map (fun p:Int×Ent=>p.2.root)).count_eq z,List.map_cons];rfl
 have hmm: ∀p∈(n0D id y u).vols,p=(id,y)∨p∈b0I id s.vols:=fun p hp'=>by
  rw[hvol]at hp'
  exact List.mem_cons.1 (hpp.mem_iff.1 hp')
 refine⟨Go.Sb.fin (n0D id y u),e3,CI.fin i4 t2.idx (fun p hp'=> ?_) (fun p hp'=> ?_) ?_,hvol,fun p hp'=> ?_,t2.next,r3.epoch,r3.bits,?_⟩
 ·rcases hmm p hp' with rfl|hq
  ·exact k2
  ·exact(k3 _ (List.mem_map.2 ⟨p,hq,rfl⟩)).1
 ·rcases hmm p hp' with rfl|hq
  ·exact⟨hyid,hys⟩
  ·exact h.ids _ (n0B hq)
 ·rw[hvol,hpp.length_eq];simp only[List.length_cons];have h1:=(o0C hx).length_eq;simp only[List.length_cons]at h1;have:=h.few;omega
 ·exact(k3 _ (List.mem_map.2 ⟨p,hp',rfl⟩)).2
 ·have h1:=r3.room
  have h2:=w0T i4
  have h3:b0U ({s with depth:=1} :St)=b0U s:=rfl
  omega
theorem CI.copened (_:CI s G) {id:Int} {x:Ent} (hx:a0H id s.vols=some x) (ho:x.only=false):l0C id (Go.Sb.start s 0)=(.ok x,Go.Sb.start s 0):=by
 unfold l0C
 rw[a0A (show find id (Go.Sb.start s 0)=(.ok x,Go.Sb.start s 0) by unfold find;rw[show a0H id (Go.Sb.start s 0).vols=some x from hx])]
 rw[if_neg (by simp[ho])];rfl
theorem a1T {id:Int} (hx:a0H id s.vols=none):l0C id (Go.Sb.start s 0)=(.err 5,Go.Sb.start s 0):=by
 unfold l0C
 exact a0Q (show find id (Go.Sb.start s 0)=(.err 5,Go.Sb.start s 0) by unfold find;rw[show a0H id (Go.Sb.start s 0).vols=none from hx])
theorem a1U {id:Int} {x:Ent} (hx:a0H id s.vols=some x) (ho:x.only=true):l0C id (Go.Sb.start s 0)=(.err 7,Go.Sb.start s 0):=by
 unfold l0C
 rw[a0A (show find id (Go.Sb.start s 0)=(.ok x,Go.Sb.start s 0) by unfold find;rw[show a0H id (Go.Sb.start s 0).vols=some x from hx])]
 rw[if_pos ho];rfl
theorem CI.deleted (h:CI s G) {id:Int} {x:Ent} (hx:a0H id s.vols=some x):
 ∃s' G',i0I (Go.Sb.e0V 0 (p0H id)) s=(.ok (0,.done ()),s')∧CI s' G'∧s'.vols=b0I id s.vols∧(∀p∈b0I id s.vols,b0D G' p.2.root=b0D G p.2.root)∧s'.next=s.next∧s'.epoch=s.epoch∧s'.bits=s.bits∧b0U s≤b0U s':=by
 obtain⟨i0,x0⟩:=h.start 0
 have i1:=h.roots hx
 have hmem:=h.mem hx
 obtain⟨t1,ht1⟩: ∃t1:St,t1= {Go.Sb.start s 0 with log:=bk 1 [.keep s.keep] (.vols id (some x)),vols:=b0I id s.vols} :=⟨_,rfl⟩
 have ed:n0G id (Go.Sb.start s 0)=(.ok (),t1):=by
  unfold n0G a0B back
  simp only
  rw[if_neg (by show ¬1000000000≤1;omega),ht1]
  simp only
  rw[show a0H id (Go.Sb.start s 0).vols=some x from hx]
  rfl
 have r1:Rel 1 0 (Go.Sb.start s 0) t1:=by
  have:=e1Q id (Go.Sb.start s 0) Nat.zero_lt_one i1.u (by rw[ed];simp)
  rw[ed]at this;exact this
 have i2:Inv t1 G (x.root::k0M s id):=by
  rw[ht1]
  exact i1.other rfl rfl rfl rfl rfl ⟨i1.u.m.refs,i1.u.m.young,i1.u.m.index,j0K _ h.inv.u.m.vols⟩ i1.u.keep
 have x2:Idx t1 G:=by rw[ht1];exact x0
 have hll:j0D 3≤11100:=by decide
 have hol:=h.othersLen hx
 have hg0:(Go.Sb.start s 0).gone.length=0:=by show s.gone.length=0;rw[h.gone];rfl
 have hl0:(Go.Sb.start s 0).log.length=1:=rfl
 have hro:d0O (j0D 3) t1:=⟨by rw[r1.depth];exact Nat.zero_lt_one,by have:=r1.len;omega,by have:=r1.gone;omega⟩
 obtain⟨u,G',e3,i3,t3,sb⟩:=i2.rless 3 x2 (h.kid _ hmem) hro (by omega)
 have hf:find id (Go.Sb.start s 0)=(.ok x,Go.Sb.start s 0):=by unfold find;rw[show a0H id (Go.Sb.start s 0).vols=some x from hx]
 have e2:Go.Sb.e0V 0 (p0H id) {s with depth:=1} =(.ok (),u):=by
  rw[h.roomC (.inl rfl)]
  unfold p0H
  rw[a0A hf,a0A ed]
  exact e3
 have r3:=(h.rel 0).trans (r1.trans t3.rel)
 have e4:=r0U h e2 r3
 have hvol:u.vols=b0I id s.vols:=by rw[t3.vols,ht1]
 have i4:Inv u G' (j0A u):=by unfold j0A;rw[hvol];exact i3
 have keep: ∀p∈k0M s id,b0K G' 3 p∧b0D G' p=b0D G p:=fun p hp=>by
  have hl:p=0∨(a0H p G').isSome=true:=if h0:p=0 then .inl h0 else .inr (i3.pend hp h0)
  exact⟨i2.kidSame t3.old (h.othersKid id p hp) hl,i2.mapKeep i3 t3.old (h.othersKid id p hp) hl⟩
 refine⟨Go.Sb.fin u,G',e4,CI.fin i4 t3.idx (fun p hp=> ?_) (fun p hp=> ?_) ?_,hvol,fun p hp=> ?_,?_,r3.epoch,r3.bits,?_⟩
 ·rw[hvol]at hp;exact(keep _ (List.mem_map.2 ⟨p,hp,rfl⟩)).1
 ·rw[hvol]at hp;exact h.ids _ (n0B hp)
 ·rw[hvol];have h1:=(o0C hx).length_eq;simp only[List.length_cons]at h1;have:=h.few;omega
 ·exact(keep _ (List.mem_map.2 ⟨p,hp,rfl⟩)).2
 ·show u.next=s.next;rw[t3.next,ht1];rfl
 ·have h1:=r3.room
  have h2:=w0T i4
  have h3:b0U ({s with depth:=1} :St)=b0U s:=rfl
  omega
end
end
section
structure c2V (G:Gh) (v:Vp) (x:Ent):Prop where
 parent:x.parent=v.parent
 only:x.only=v.only
 size:x.size=v.size
 born:x.born=v.born
 map:k0X v.m (b0D G x.root)
structure J (s:St) (G:Gh) (P:Rp):Prop where
 ci:CI s G
 next:s.next=P.next
 pos:1≤P.next
 bits:s.bits=P.bits
 epoch:s.epoch=P.epoch
 len:s.vols.length=P.l.length
 ord:P.l.Pairwise fun a b=>a.id<b.id
 ids: ∀v∈P.l,1≤v.id∧v.id<P.next
 vol: ∀v∈P.l,∃x,a0H v.id s.vols=some x∧c2V G v x
 back: ∀p∈s.vols,∃v∈P.l,v.id=p.1
section
variable {s s':St} {G G':Gh} {P:Rp}
theorem k0Y {l:List Vp} {id:Int} {i:Nat} (h:d0E l id=some i): ∃hi:i<l.length,l[i].id=id:=by
 unfold d0E at h
 rw[List.findIdx?_eq_some_iff_getElem]at h
 exact⟨h.1,by simpa using h.2.1⟩
theorem h2L {l:List Vp} {id:Int} (h:d0E l id=none): ∀v∈l,v.id≠id:=by
 unfold d0E at h
 rw[List.findIdx?_eq_none_iff]at h
 exact fun v hv=>by simpa using h v hv
theorem j1Q {l:List Vp} (h:l.Pairwise fun a b=>a.id<b.id) {i j:Nat} (hi:i<l.length) (hj:j<l.length) (hne:i≠j):l[i].id≠l[j].id:=by
 rcases Nat.lt_or_gt_of_ne hne with h1|h1
 ·have:=List.pairwise_iff_getElem.1 h i j hi hj h1;omega
 ·have:=List.pairwise_iff_getElem.1 h j i hj hi h1;omega
theorem J.found (h:J s G P) {id:Int} {i:Nat} (hf:d0E P.l id=some i): ∃(_:i<P.l.length) (x:Ent),(P.l.getD i v0).id=id∧a0H id s.vols=some x∧c2V G (P.l.getD i v0) x:=by
 obtain⟨hi,he⟩:=k0Y hf
 obtain⟨x,hx,hr⟩:=h.vol _ (List.getElem_mem hi)
 rw[q0M hi]
 exact⟨hi,x,he,by rw[←he];exact hx,hr⟩
theorem J.missing (h:J s G P) {id:Int} (hf:d0E P.l id=none):a0H id s.vols=none:=by
 cases e:a0H id s.vols with
 |none=>rfl
 |some x=>
  obtain⟨v,hv,he⟩:=h.back _ (h.ci.mem e)
  exact(h2L hf v hv he).elim
theorem J.others (h:J s G P) {id:Int} {i:Nat} (hi:i<P.l.length) (he:(P.l.getD i v0).id=id):q0L P i (n0C s G id):=by
 have hm:=h.ci.inv.u.m.vols
 rw[q0M hi]at he
 refine⟨fun k hk hne=> ?_,fun f hf=> ?_⟩
 ·obtain⟨x,hx,hr⟩:=h.vol _ (List.getElem_mem hk)
  have hid:P.l[k].id≠id:=by rw[←he];exact j1Q h.ord hk hi hne
  rw[q0M hk]
  refine⟨b0D G x.root,List.mem_map.2 ⟨(P.l[k].id,x),?_,rfl⟩,hr.map⟩
  rw[←g0X (j0K id hm),c0V id _ hm,if_neg (Ne.symm hid)]
  exact hx
 ·obtain⟨⟨j,x⟩,hp,rfl⟩:=List.mem_map.1 hf
  have h1:=(g0X (j0K id hm)).2 hp
  rw[c0V id _ hm]at h1
  split at h1
  ·cases h1
  ·rename_i hne
   obtain⟨v,hv,hj⟩:=h.back _ ((g0X hm).1 h1)
   obtain⟨k,hk,rfl⟩:=List.mem_iff_getElem.1 hv
   simp only at hj
   obtain⟨y,hy,hr⟩:=h.vol _ (List.getElem_mem hk)
   rw[hj,h1]at hy
   cases hy
   refine⟨k,hk,fun e=> ?_,by rw[q0M hk];exact hr.map⟩
   subst e
   exact hne (he.symm.trans hj)
theorem CI.uniq (h:CI s G) {Ms:List (Nat→B)} (hM: ∀f∈Ms,∃r,b0K G 3 r∧f=b0D G r):o0Q Ms s.bits:=by
 have leaf: ∀f∈Ms,∀j,b0B (f j)=false→ ∃a ats,a0H a G=some (.ext (f j) ats):=fun f hf j hz=>by
  obtain⟨r,hr,rfl⟩:=hM f hf
  by_cases hj:j<512
  case neg=>unfold b0D at hz;rw[if_neg hj,e0P]at hz;cases hz
  rcases h.inv.leafKid 2 hr j with h0| ⟨d,ats,ho⟩
  ·unfold b0D e0B at hz
   rw[if_pos hj,h0,h.inv.zero]at hz
   simp[e0P]at hz
  ·exact⟨_,ats,by rw[ho];unfold b0D e0B;rw[if_pos hj,ho]⟩
 intro m1 h1 m2 h2 i j z1 z2 hk
 obtain⟨a1,t1,e1⟩:=leaf m1 h1 i z1
 obtain⟨a2,t2,e2⟩:=leaf m2 h2 j z2
 have g1:=(h.idx (key s.bits (Sha.sum (m1 i))) a1).2 ⟨_,_,e1,rfl⟩
 have g2:=(h.idx (key s.bits (Sha.sum (m1 i))) a2).2 ⟨_,_,e2,hk⟩
 rw[g1]at g2
 cases g2
 rw[e1]at e2
 simp only[Option.some.injEq,Ob.ext.injEq]at e2
 exact e2.1
theorem J.uniq (h:J s G P) {id:Int} {x:Ent} (hx:a0H id s.vols=some x):o0Q (b0D G x.root::n0C s G id) P.bits:=by
 rw[←h.bits]
 refine h.ci.uniq fun f hf=> ?_
 rcases List.mem_cons.1 hf with rfl|hf
 ·exact⟨x.root,h.ci.kid _ (h.ci.mem hx),rfl⟩
 ·obtain⟨p,hp,rfl⟩:=List.mem_map.1 hf
  exact⟨_,h.ci.kid _ (n0B hp),rfl⟩
theorem J.still (h:J s G P) (t:o1P s s' G):J s' G P:=
 ⟨t.ci,t.next.trans h.next,h.pos,t.bits.trans h.bits,t.epoch.trans h.epoch,t.perm.length_eq.trans h.len,h.ord,h.ids,fun v hv=>by obtain⟨x,hx,hr⟩:=h.vol v hv;exact⟨x,(t.vols v.id).trans hx,hr⟩,fun p hp=>h.back p (t.perm.mem_iff.1 hp)⟩
theorem J.few (h:J s G P):P.l.length≤16:=h.len▸h.ci.few
theorem J.set (h:J s G P) {id:Int} {i:Nat} {x y:Ent} {v:Vp} (hi:i<P.l.length) (he:(P.l.getD i v0).id=id) (hx:a0H id s.vols=some x) (c:CI s' G') (hv:s'.vols=c0F id y s.vols) (ho: ∀p∈b0I id s.vols,b0D G' p.2.root=b0D G p.2.root)
 (h1:s'.next=s.next) (h2:s'.epoch=s.epoch) (h3:s'.bits=s.bits) (hvid:v.id=id) (hr:c2V G' v y):J s' G' {P with l:=P.l.set i v} :=by
 have hm:=h.ci.inv.u.m.vols
 rw[q0M hi]at he
 have hids:(P.l.set i v).map (·.id)=P.l.map (·.id):=by
  rw[List.map_set,hvid]
  have e:(P.l.map (·.id))[i]'(by simpa using hi)=id:=by simpa using he
  rw[←e];exact List.set_getElem_self _
 have hvo: ∀w∈P.l.set i v,w=v∨(w∈P.l∧w.id≠id):=fun w hw=>by
  obtain⟨k,hk,rfl⟩:=List.mem_iff_getElem.1 hw
  have hk':k<P.l.length:=by simpa using hk
  rw[List.getElem_set]
  split
  ·exact .inl rfl
  ·rename_i hne;exact .inr ⟨List.getElem_mem hk',by rw[←he];exact j1Q h.ord hk' hi (Ne.symm hne)⟩
 refine⟨c,h1.trans h.next,h.pos,h3.trans h.bits,h2.trans h.epoch,?_,?_,fun w hw=> ?_,fun w hw=> ?_,fun p hp=> ?_⟩
 ·rw[hv,(u0G hx).length_eq,List.length_set,←h.len,(o0C hx).length_eq];rfl
 ·have h4:(P.l.map (·.id)).Pairwise (· < ·):=List.pairwise_map.2 h.ord
  rw[←hids]at h4
  exact List.pairwise_map.1 h4
 ·rcases hvo w hw with rfl| ⟨hw,_⟩
  ·rw[hvid,←he];exact h.ids _ (List.getElem_mem hi)
  ·exact h.ids w hw
 ·rw[hv]
  rcases hvo w hw with rfl| ⟨hw,hne⟩
  ·exact⟨y,by rw[i0T,if_pos hvid.symm],hr⟩
  ·obtain⟨z,hz,hzr⟩:=h.vol w hw
   refine⟨z,by rw[i0T,if_neg (Ne.symm hne)];exact hz,hzr.parent,hzr.only,hzr.size,hzr.born,?_⟩
   have hp:(w.id,z)∈b0I id s.vols:=by rw[←g0X (j0K id hm),c0V id _ hm,if_neg (Ne.symm hne)];exact hz
   rw[ho _ hp];exact hzr.map
 ·rw[hv]at hp
  have: ∃w∈P.l,w.id=p.1:=by
   rcases List.mem_cons.1 ((u0G hx).mem_iff.1 hp)with rfl|hq
   ·exact⟨_,List.getElem_mem hi,he⟩
   ·exact h.back p (n0B hq)
  obtain⟨w,hw,e⟩:=this
  have:w.id∈(P.l.set i v).map (·.id):=by rw[hids];exact List.mem_map.2 ⟨w,hw,rfl⟩
  obtain⟨w',hw',e'⟩:=List.mem_map.1 this
  exact⟨w',hw',e'.trans e⟩
theorem J.del (h:J s G P) {id:Int} {i:Nat} {x:Ent} (hi:i<P.l.length) (he:(P.l.getD i v0).id=id) (hx:a0H id s.vols=some x) (c:CI s' G') (hv:s'.vols=b0I id s.vols) (ho: ∀p∈b0I id s.vols,b0D G' p.2.root=b0D G p.2.root)
 (h1:s'.next=s.next) (h2:s'.epoch=s.epoch) (h3:s'.bits=s.bits):J s' G' {P with l:=P.l.eraseIdx i} :=by
 have hm:=h.ci.inv.u.m.vols
 rw[q0M hi]at he
 have hin: ∀w∈P.l.eraseIdx i,w∈P.l∧w.id≠id:=fun w hw=>by
  obtain⟨k,hk,rfl⟩:=List.mem_iff_getElem.1 hw
  rw[List.length_eraseIdx_of_lt hi]at hk
  rw[List.getElem_eraseIdx]
  split
  ·rename_i hlt;exact⟨List.getElem_mem _,by rw[←he];exact j1Q h.ord _ hi (by omega)⟩
  ·rename_i hlt;exact⟨List.getElem_mem _,by rw[←he];exact j1Q h.ord _ hi (by omega)⟩
 have hout: ∀w∈P.l,w.id≠id→w∈P.l.eraseIdx i:=fun w hw hne=>by
  obtain⟨k,hk,rfl⟩:=List.mem_iff_getElem.1 hw
  rw[List.mem_eraseIdx_iff_getElem]
  exact⟨k,hk,fun e=>by subst e;exact hne he,rfl⟩
 refine⟨c,h1.trans h.next,h.pos,h3.trans h.bits,h2.trans h.epoch,?_,h.ord.sublist (List.eraseIdx_sublist ..),fun w hw=>h.ids w (hin w hw).1,fun w hw=> ?_,fun p hp=> ?_⟩
 ·show _=(P.l.eraseIdx i).length
  rw[hv,List.length_eraseIdx_of_lt hi,←h.len,(o0C hx).length_eq,List.length_cons];omega
 ·obtain⟨hw1,hne⟩:=hin w hw
  obtain⟨z,hz,hzr⟩:=h.vol w hw1
  have hp:(w.id,z)∈b0I id s.vols:=by rw[←g0X (j0K id hm),c0V id _ hm,if_neg (Ne.symm hne)];exact hz
  refine⟨z,by rw[hv,c0V id _ hm,if_neg (Ne.symm hne)];exact hz,hzr.parent,hzr.only,hzr.size,hzr.born,?_⟩
  rw[ho _ hp];exact hzr.map
 ·rw[hv]at hp
  obtain⟨w,hw,e⟩:=h.back p (n0B hp)
  refine⟨w,hout w hw fun e2=> ?_,e⟩
  have h4:=(g0X (j0K id hm) (k:=p.1) (v:=p.2)).2 hp
  rw[c0V id _ hm,if_pos (e2.symm.trans e)]at h4
  cases h4
theorem J.add (h:J s G P) {x:Ent} {v:Vp} (hn:P.next<1000000000) (h16:P.l.length<16) (c:CI s' G') (hv:s'.vols=s.vols++ [(s.next,{x with id:=s.next,born:=s.epoch})]) (ho: ∀p∈s.vols,b0D G' p.2.root=b0D G p.2.root)
 (h1:s'.next=m0F (s.next+1)) (h2:s'.epoch=s.epoch) (h3:s'.bits=s.bits) (hr:x.parent=v.parent∧x.only=v.only∧x.size=v.size∧k0X v.m (b0D G' x.root)):J s' G' (i0J P v).1:=by
 have hpos:=h.pos
 unfold i0J
 rw[if_neg (by omega)]
 have hnone:a0H s.next s.vols=none:=by
  cases e:a0H s.next s.vols with
  |none=>rfl
  |some y=>
   obtain⟨w,hw,e2⟩:=h.back _ (h.ci.mem e)
   have:=(h.ids w hw).2
   simp only at e2
   rw[h.next]at e2;omega
 refine⟨c,?_,by show 1≤P.next+1;omega,h3.trans h.bits,h2.trans h.epoch,?_,?_,fun w hw=> ?_,fun w hw=> ?_,fun p hp=> ?_⟩
 ·show s'.next=P.next+1
  rw[h1,h.next];unfold m0F;omega
 ·rw[hv];simp[h.len]
 ·refine List.pairwise_append.2 ⟨h.ord,List.pairwise_singleton _ _,fun a ha b hb=> ?_⟩
  rw[List.mem_singleton.1 hb];exact(h.ids a ha).2
 ·rcases List.mem_append.1 hw with hw|hw
  ·have:=h.ids w hw;exact⟨this.1,by show w.id<P.next+1;omega⟩
  ·rw[List.mem_singleton.1 hw];exact⟨h.pos,by show P.next<P.next+1;omega⟩
 ·rw[hv]
  rcases List.mem_append.1 hw with hw|hw
  ·obtain⟨z,hz,hzr⟩:=h.vol w hw
   refine⟨z,by rw[g1T,hz],hzr.parent,hzr.only,hzr.size,hzr.born,?_⟩
   rw[ho _ (h.ci.mem hz)];exact hzr.map
  ·rw[List.mem_singleton.1 hw]
   refine⟨{x with id:=s.next,born:=s.epoch},?_,hr.1,hr.2.1,hr.2.2.1,h.epoch,hr.2.2.2⟩
   show a0H P.next _=_
   rw[g1T,←h.next,hnone];simp
 ·rw[hv]at hp
  rcases List.mem_append.1 hp with hp|hp
  ·obtain⟨w,hw,e⟩:=h.back p hp;exact⟨w,List.mem_append_left _ hw,e⟩
  ·rw[List.mem_singleton.1 hp];exact⟨_,List.mem_append_right _ (List.mem_singleton.2 rfl),h.next.symm⟩
end
end
section
def Few (N:Nat) (P:Rp):Prop:= ∀v∈P.l,v.m.length≤N
theorem Few.mono {N M:Nat} {P:Rp} (h:Few N P) (hm:N≤M):Few M P:=fun v hv=>Nat.le_trans (h v hv) hm
def l1N (s:St) (P:Rp) (m:M Int) (r:Rp×Int) (K N:Nat):Prop:= ∃s' G',m s=(.ok r.2,s')∧J s' G' (if r.2=0 then r.1 else P)∧b0U s≤b0U s'+K∧Few N (if r.2=0 then r.1 else P)
theorem x0S {P:Rp} {id at_:Int} {data:B} {i:Nat} (h:d0E P.l id=some i):k0C P id at_ data=if(P.l.getD i v0).only=true then(P,7)else if data.length%64≠0 then(P,4)else if o0A (P.l.getD i v0) at_ (data.length/64:Nat)=true then(P,6)else
 if(d0L i data.length P at_.toNat data).2≠0 then(P,(d0L i data.length P at_.toNat data).2)else((d0L i data.length P at_.toNat data).1,0):=by unfold k0C;rw[h]
theorem a1V {P:Rp} {id at_ n:Int} {i:Nat} (h:d0E P.l id=some i):m0M P id at_ n=if(P.l.getD i v0).only=true then(P,7)else if o0A (P.l.getD i v0) at_ n=true then(P,6)else e0C P i at_.toNat (at_+n).toNat:=by unfold m0M;rw[h]
def k0N (P:Rp) (i:Nat) (size:Int):Rp×Int:=if size<(P.l.getD i v0).size then e0C P i size.toNat (P.l.getD i v0).size.toNat else(P,0)
theorem v0B {P:Rp} {id size:Int} {i:Nat} (h:d0E P.l id=some i):h0R P id size=if(P.l.getD i v0).only=true then(P,7)else if size<1∨2048<size then(P,4)else
 if(k0N P i size).2≠0 then(P,(k0N P i size).2)else({(k0N P i size).1 with l:=(k0N P i size).1.l.set i {(k0N P i size).1.l.getD i v0 with size:=size}},0):=by unfold h0R;rw[h];rfl
section
variable {s:St} {G:Gh} {P:Rp} {N:Nat}
theorem J.fails {m:M Unit} {er:Int} {t:St} {r:Rp×Int} {K M':Nat} (h:J s G P) (hF:Few N P) (hN:N≤M') (hu:UMe m) (e:m (start s 0)=(.err er,t)) (her:er≠0) (hr:r.2=er):l1N s P (a0B (i0I (e0V 0 m)) fun r=>ret r.1) r K M':=by
 obtain⟨s',e1,t1⟩:=h.ci.failed hu e her
 refine⟨s',G,by rw[a0A e1,hr];rfl,?_,by have:=t1.room;omega,?_⟩
 ·rw[if_neg (by omega)];exact h.still t1
 ·rw[if_neg (by omega)];exact hF.mono hN
theorem a1W {x:Ent} {v:Vp} (hx:x.size=v.size) (hs:x.size≤2048) (a n:Int) (s:St):g0T x a n s=if o0A v a n then(.err 6,s)else(.ok (),s):=by
 unfold g0T k0U o0A
 rw[if_neg (by omega),←hx]
 by_cases h:a<0∨n<0∨x.size<a∨x.size-a<n
 ·rw[if_pos h,decide_eq_true h];rfl
 ·rw[if_neg h,decide_eq_false h];rfl
theorem J.size (h:J s G P) {id:Int} {x:Ent} (hx:a0H id s.vols=some x):x.id=id∧1≤x.size∧x.size≤2048:=h.ci.ids _ (h.ci.mem hx)
theorem e1H {i:Nat} {v:Vp} {M':Nat} (hF:Few N P) (hN:N≤M') (hv:v.m.length≤M'):Few M' {P with l:=P.l.set i v} :=fun w hw=>by
 rcases List.mem_or_eq_of_mem_set hw with h1|rfl
 ·exact(hF.mono hN) w h1
 ·exact hv
theorem s0Q (hF:Few N P) {i:Nat} (hi:i<P.l.length):(P.l.getD i v0).m.length≤N:=by rw[q0M hi];exact hF _ (List.getElem_mem hi)
theorem J.delete (h:J s G P) (hF:Few N P) (id:Int):l1N s P (r0F id) (h0Q P id) 0 N:=by
 unfold r0F
 cases hf:d0E P.l id with
 |none=>
  refine h.fails hF (Nat.le_refl _) (c2U id) (er:=5) (t:=start s 0) ?_ (by decide) (by unfold h0Q;rw[hf])
  unfold p0H
  exact a0Q (show find id (start s 0)=(.err 5,start s 0) by unfold find;rw[show a0H id (start s 0).vols=none from h.missing hf])
 |some i=>
  obtain⟨hi,x,he,hx,hr⟩:=h.found hf
  obtain⟨s',G',e1,c1,v1,m1,n1,p1,b1,f1⟩:=h.ci.deleted hx
  have er:h0Q P id=({P with l:=P.l.eraseIdx i},0):=by unfold h0Q;rw[hf]
  rw[er]
  refine⟨s',G',by rw[a0A e1];rfl,?_,by omega,?_⟩
  ·exact h.del hi he hx c1 v1 m1 n1 p1 b1
  ·exact fun v hv=>hF v (List.mem_of_mem_eraseIdx hv)
theorem J.write (h:J s G P) (hF:Few N P) (id at_:Int) {data:B} (hd:data.length%64=0→data.length≤768) (hroom:128≤b0U s):l1N s P (h0E id at_ data) (k0C P id at_ data) 96 (N+4):=by
 unfold h0E
 cases hf:d0E P.l id with
 |none=>exact h.fails hF (by omega) (u0H id at_ data) (er:=5) (t:=start s 0) (by unfold h0Y;exact a0Q (a1T (h.missing hf))) (by decide) (by unfold k0C;rw[hf])
 |some i=>
  obtain⟨hi,x,he,hx,hr⟩:=h.found hf
  have hsz:=h.size hx
  have er:=x0S (at_:=at_) (data:=data) hf
  by_cases ho:(P.l.getD i v0).only=true
  ·rw[if_pos ho]at er
   exact h.fails hF (by omega) (u0H id at_ data) (er:=7) (t:=start s 0) (by unfold h0Y;exact a0Q (a1U hx (hr.only.trans ho))) (by decide) (by rw[er])
  rw[if_neg ho]at er
  have hop:=h.ci.copened hx (show x.only=false by rw[hr.only];simpa using ho)
  by_cases h64:data.length%64≠0
  ·rw[if_pos h64]at er
   exact h.fails hF (by omega) (u0H id at_ data) (er:=4) (t:=start s 0) (by unfold h0Y;rw[a0A hop,if_pos h64];rfl) (by decide) (by rw[er])
  rw[if_neg h64]at er
  have hd:=hd (by omega)
  have hw:=a1W hr.size hsz.2.2 at_ (data.length/64:Nat) (start s 0)
  by_cases hb:o0A (P.l.getD i v0) at_ (data.length/64:Nat)=true
  ·rw[if_pos hb]at er hw
   exact h.fails hF (by omega) (u0H id at_ data) (er:=6) (t:=start s 0) (by unfold h0Y;rw[a0A hop,if_neg h64];exact a0Q hw) (by decide) (by rw[er])
  rw[if_neg hb]at er hw
  have hbad: ¬(at_<0∨((data.length/64:Nat):Int)<0∨(P.l.getD i v0).size<at_∨(P.l.getD i v0).size-at_<((data.length/64:Nat):Int)):=fun hh=>hb (decide_eq_true hh)
  have hsv:=hr.size
  have e0:h0Y id at_ data (start s 0)=a0B (e0U x at_.toNat data) l0K (start s 0):=by
   unfold h0Y;rw[a0A hop,if_neg h64,a0A hw]
  have hC:=x0P
  obtain⟨m,hm⟩: ∃m,m=data.length/64:=⟨_,rfl⟩
  have hol:=h.ci.othersLen hx
  have hmC:m*l0W≤12*12666:=Nat.mul_le_mul (by omega) hC
  have hpat:=Inv.patch l0W rfl data.length m (x:=x) (at_:=at_.toNat) (data:=data) (h.ci.roots hx) (h.ci.start 0).2 (h.ci.kid _ (h.ci.mem hx)) (h.ci.othersKid id) (by omega) (by omega) (by omega) (f1D h.ci (by omega) 0) (by omega)
  rw[j1P,show(start s 0).bits=P.bits from h.bits]at hpat
  have hrel:=q0N i data.length P (b0D G x.root) (n0C s G id) at_.toNat data hi (h.others hi he) hr.map (h.uniq hx) (by omega) (by omega) (Nat.le_refl _)
  rcases hpat with ⟨r,u,G',e1,i2,t2,k2,k3,m2,n2⟩| ⟨e,u,e1,he9⟩
  ·rcases hrel with ⟨g1,_⟩| ⟨_,m',g2,g3,_,g5,_⟩
   ·exact(n2 g1).elim
   ·obtain⟨s',e3,c3,v3,o3,q1,q2,q3,q4⟩:=h.ci.edited hx e0 e1 hsz.1 hsz.2 i2 t2 k2 k3 (by omega)
    rw[g2,if_neg (fun hh=>hh rfl)]at er
    rw[er]
    refine⟨s',G',by rw[a0A e3];rfl,?_,by omega,?_⟩
    ·rw[←m2]at g3
     exact h.set hi he hx c3 v3 o3 q1 q2 q3 he ⟨hr.parent,hr.only,hr.size,hr.born,g3⟩
    ·refine e1H hF (by omega) ?_
     show m'.length≤N+4
     have:=s0Q hF hi
     unfold c2R at g5
     split at g5<;>omega
  ·have h3:b0U (start s 0)=b0U s:=rfl
   have h4:(start s 0).keep=((2*(s.vols.length+0):Nat):Int):=rfl
   have hfew:=h.ci.few
   rcases he9 with ⟨_,h8⟩| ⟨h9,hno⟩
   ·rw[h3,h4]at h8;omega
   ·rcases hrel with ⟨_,g2⟩| ⟨g1,_⟩
    ·rw[if_pos (by rw[g2];decide),g2]at er
     exact h.fails hF (by omega) (u0H id at_ data) (er:=9) (t:=u) (by rw[e0];subst h9;exact a0Q e1) (by decide) (by rw[er])
    ·exact(g1 hno).elim
theorem J.noughts (h:J s G P) (hF:Few N P) {id:Int} {i:Nat} {x:Ent} {fr u:Nat} (hi:i<P.l.length) (he:(P.l.getD i v0).id=id) (hx:a0H id s.vols=some x) (hr:c2V G (P.l.getD i v0) x) (hfu:fr≤u) (hu:u≤2048) (hN:N≤80) (hroom:80+N*3≤b0U s):
 (∃r t G' m',h0F x fr u (start s 0)=(.ok {x with root:=r},t)∧Inv t G' (r::k0M s id)∧Stp (6*l0W+N*f0U 2) (48+N*3) (start s 0) G t G'∧b0K G' 3 r∧(∀p∈k0M s id,b0K G' 3 p∧b0D G' p=b0D G p)∧
  e0C P i fr u=(d0R P i m',0)∧k0X m' (b0D G' r)∧m'.length≤N)∨ ∃t,h0F x fr u (start s 0)=(.err 9,t)∧(e0C P i fr u).2=9:=by
 have hC:=x0P
 have hC2:f0U 2≤12666:=Nat.le_trans (Nat.le_add_left _ 16) hC
 have hol:=h.ci.othersLen hx
 have hNC:N*f0U 2≤80*12666:=Nat.mul_le_mul hN hC2
 have hrel:=t1M (fr:=fr) (u:=u) hi (h.others hi he) hr.map (h.uniq hx) hfu hu
 have hml:=s0Q hF hi
 have hcl:=Inv.cclear (L:=N) l0W (f0U 2) rfl rfl (x:=x) (h.ci.roots hx) (h.ci.start 0).2 (h.ci.kid _ (h.ci.mem hx)) (h.ci.othersKid id) hfu hu ⟨Nat.zero_lt_one,by show 1+(6*l0W+N*f0U 2)+10<1000000000;omega,by show s.gone.length+(6*l0W+N*f0U 2)+10<1000000000;rw[h.ci.gone];simp only[List.length_nil];omega⟩ (by omega)
 rw[j1P,show(start s 0).bits=P.bits from h.bits]at hcl
 have hcl:=hcl fun hs hno=>by
  rcases q0N i ((4*((fr+3)/4)-fr)*64) P (b0D G x.root) (n0C s G id) fr (a0T ((4*((fr+3)/4)-fr)*64)) hi (h.others hi he) hr.map (h.uniq hx) (by rw[f0W];omega) (by rw[f0W];omega) (by rw[f0W];exact Nat.le_refl _)with ⟨g1,_⟩| ⟨_,m1,_,g3,_,_,g6⟩
  ·exact(hno g1).elim
  ·exact⟨m1,g3,Nat.le_trans (g6 (u0Z _)) hml⟩
 rcases hcl with ⟨r,t,G',e1,i2,t2,k2,k3,m2,n2⟩| ⟨e,t,e1,he9⟩
 ·rcases hrel with ⟨g1,_⟩| ⟨_,m',g2,g3,_,g5⟩
  ·exact(n2 g1).elim
  ·exact .inl ⟨r,t,G',m',e1,i2,t2,k2,k3,g2,by rw[m2];exact g3,by omega⟩
 ·have h3:b0U (start s 0)=b0U s:=rfl
  have h4:(start s 0).keep=((2*(s.vols.length+0):Nat):Int):=rfl
  have hfew:=h.ci.few
  rcases he9 with ⟨_,h8⟩| ⟨h9,hno⟩
  ·rw[h3,h4]at h8;omega
  ·rcases hrel with ⟨_,g2⟩| ⟨g1,_⟩
   ·subst h9;exact .inr ⟨t,e1,g2⟩
   ·exact(g1 hno).elim
theorem m2X (N:Nat) (hN:N≤80):6*l0W+N*f0U 2≤900000000:=by
 have hC:=x0P
 have hC2:f0U 2≤12666:=Nat.le_trans (Nat.le_add_left _ 16) hC
 have:=Nat.mul_le_mul hN hC2
 omega
theorem J.trim (h:J s G P) (hF:Few N P) (id at_ n:Int) (hN:N≤80) (hroom:80+N*3≤b0U s):l1N s P (w0Q id at_ n) (m0M P id at_ n) (48+N*3) N:=by
 unfold w0Q
 cases hf:d0E P.l id with
 |none=>exact h.fails hF (Nat.le_refl _) (a1S id at_ n) (er:=5) (t:=start s 0) (by unfold q0K;exact a0Q (a1T (h.missing hf))) (by decide) (by unfold m0M;rw[hf])
 |some i=>
  obtain⟨hi,x,he,hx,hr⟩:=h.found hf
  have hsz:=h.size hx
  have er:=a1V (at_:=at_) (n:=n) hf
  by_cases ho:(P.l.getD i v0).only=true
  ·rw[if_pos ho]at er
   exact h.fails hF (Nat.le_refl _) (a1S id at_ n) (er:=7) (t:=start s 0) (by unfold q0K;exact a0Q (a1U hx (hr.only.trans ho))) (by decide) (by rw[er])
  rw[if_neg ho]at er
  have hop:=h.ci.copened hx (show x.only=false by rw[hr.only];simpa using ho)
  have hw:=a1W hr.size hsz.2.2 at_ n (start s 0)
  by_cases hb:o0A (P.l.getD i v0) at_ n=true
  ·rw[if_pos hb]at er hw
   exact h.fails hF (Nat.le_refl _) (a1S id at_ n) (er:=6) (t:=start s 0) (by unfold q0K;rw[a0A hop];exact a0Q hw) (by decide) (by rw[er])
  rw[if_neg hb]at er hw
  have hbad: ¬(at_<0∨n<0∨(P.l.getD i v0).size<at_∨(P.l.getD i v0).size-at_<n):=fun hh=>hb (decide_eq_true hh)
  have hsv:=hr.size
  have e0:q0K id at_ n (start s 0)=a0B (h0F x at_.toNat (at_+n).toNat) l0K (start s 0):=by
   unfold q0K;rw[a0A hop,a0A hw]
  rw[er]
  rcases h.noughts hF (fr:=at_.toNat) (u:=(at_+n).toNat) hi he hx hr (by omega) (by omega) hN hroom with ⟨r,t,G',m',e1,i2,t2,k2,k3,g2,g3,g5⟩| ⟨t,e1,g2⟩
  ·obtain⟨s',e3,c3,v3,o3,q1,q2,q3,q4⟩:=h.ci.edited hx e0 e1 hsz.1 hsz.2 i2 t2 k2 k3 (m2X N hN)
   rw[g2]
   refine⟨s',G',by rw[a0A e3];rfl,?_,by omega,?_⟩
   ·exact h.set hi he hx c3 v3 o3 q1 q2 q3 he ⟨hr.parent,hr.only,hr.size,hr.born,g3⟩
   ·exact e1H hF (Nat.le_refl _) g5
  ·exact h.fails hF (Nat.le_refl _) (a1S id at_ n) (er:=9) (t:=t) (by rw[e0];exact a0Q e1) (by decide) g2
theorem J.resize (h:J s G P) (hF:Few N P) (id size:Int) (hN:N≤80) (hroom:80+N*3≤b0U s):l1N s P (r0G id size) (h0R P id size) (48+N*3) N:=by
 unfold r0G
 cases hf:d0E P.l id with
 |none=>exact h.fails hF (Nat.le_refl _) (v0A id size) (er:=5) (t:=start s 0) (by unfold l0F;exact a0Q (a1T (h.missing hf))) (by decide) (by unfold h0R;rw[hf])
 |some i=>
  obtain⟨hi,x,he,hx,hr⟩:=h.found hf
  have hsz:=h.size hx
  have er:=v0B (size:=size) hf
  by_cases ho:(P.l.getD i v0).only=true
  ·rw[if_pos ho]at er
   exact h.fails hF (Nat.le_refl _) (v0A id size) (er:=7) (t:=start s 0) (by unfold l0F;exact a0Q (a1U hx (hr.only.trans ho))) (by decide) (by rw[er])
  rw[if_neg ho]at er
  have hop:=h.ci.copened hx (show x.only=false by rw[hr.only];simpa using ho)
  by_cases hs:size<1∨2048<size
  ·rw[if_pos hs]at er
   exact h.fails hF (Nat.le_refl _) (v0A id size) (er:=4) (t:=start s 0) (by unfold l0F;rw[a0A hop,if_pos hs];rfl) (by decide) (by rw[er])
  rw[if_neg hs]at er
  have hsv:=hr.size
  have e0:l0F id size (start s 0)=a0B (if size<x.size then h0F x size.toNat x.size.toNat else ret x) (fun y=>l0K {y with size:=size}) (start s 0):=by
   unfold l0F;rw[a0A hop,if_neg hs]
  by_cases hlt:size<x.size
  ·rw[if_pos hlt]at e0
   have ersh:k0N P i size=e0C P i size.toNat (P.l.getD i v0).size.toNat:=by unfold k0N;rw[if_pos (by omega)]
   rw[ersh]at er
   rcases h.noughts hF (fr:=size.toNat) (u:=x.size.toNat) hi he hx hr (by omega) (by omega) hN hroom with ⟨r,t,G',m',e1,i2,t2,k2,k3,g2,g3,g5⟩| ⟨t,e1,g2⟩
   ·rw[a0A e1]at e0
    obtain⟨s',e3,c3,v3,o3,q1,q2,q3,q4⟩:=h.ci.edited (f:=fun _=>(.ok {x with root:=r,size:=size},t)) (y:= {x with root:=r,size:=size}) hx e0 rfl hsz.1 (by show 1≤size∧size≤2048;omega) i2 t2 k2 k3 (m2X N hN)
    rw[hsv]at g2
    rw[g2,if_neg (fun hh=>hh rfl)]at er
    have hra:=w0U (m:=m') hi
    have erl:({d0R P i m' with l:=(d0R P i m').l.set i {(d0R P i m').l.getD i v0 with size:=size}} :Rp)= {P with l:=P.l.set i {P.l.getD i v0 with m:=m',size:=size}} :=by
     rw[hra];unfold d0R;simp only[List.set_set]
    rw[er]
    refine⟨s',G',by rw[a0A e3];rfl,?_,by omega,?_⟩
    ·simp only[if_true]
     rw[erl]
     exact h.set hi he hx c3 v3 o3 q1 q2 q3 he ⟨hr.parent,hr.only,rfl,hr.born,g3⟩
    ·simp only[if_true]
     rw[erl]
     exact e1H hF (Nat.le_refl _) g5
   ·rw[hsv]at g2
    rw[if_pos (by rw[g2];decide)]at er
    exact h.fails hF (Nat.le_refl _) (v0A id size) (er:=9) (t:=t) (by rw[e0];exact a0Q e1) (by decide) (by rw[er];exact g2)
  ·rw[if_neg hlt]at e0
   have ersh:k0N P i size=(P,0):=by unfold k0N;rw[if_neg (by omega)]
   rw[ersh,if_neg (fun hh=>hh rfl)]at er
   obtain⟨i1,x1⟩:=h.ci.start 0
   have hroot:=h.ci.roots hx
   have hkid:=h.ci.kid _ (h.ci.mem hx)
   obtain⟨s',e3,c3,v3,o3,q1,q2,q3,q4⟩:=h.ci.edited (f:=fun _=>(.ok {x with size:=size},start s 0)) (y:= {x with size:=size}) hx e0 rfl hsz.1 (by show 1≤size∧size≤2048;omega) hroot (Stp.refl i1 x1) hkid (fun p hp=>⟨h.ci.othersKid id p hp,rfl⟩) (by omega)
   rw[er]
   refine⟨s',G,by rw[a0A e3];rfl,?_,by omega,?_⟩
   ·exact h.set hi he hx c3 v3 o3 q1 q2 q3 he ⟨hr.parent,hr.only,rfl,hr.born,hr.map⟩
   ·exact e1H hF (Nat.le_refl _) (s0Q hF hi)
end
end
section
section
variable {s:St} {G:Gh} {P:Rp} {N:Nat}
def v0C (s:St) (G:Gh) (P:Rp) (m:M (Int×Int)) (r:Rp×Int×Int) (N:Nat):Prop:= ∃s' n,m s=(.ok (n,r.2.2),s')∧(r.2.2=0→n=r.2.1)∧(r.2.2≠0→n=0)∧J s' G (if r.2.2=0 then r.1 else P)∧b0U s≤b0U s'∧Few N (if r.2.2=0 then r.1 else P)
theorem v0C.no (h:J s G P) (hF:Few N P) {m:M (Int×Int)} {r:Rp×Int×Int} {e:Int} (he:e≠0) (hr:r.2.2=e) (hm:m s=(.ok (0,e),s)):v0C s G P m r N:=
 ⟨s,0,by rw[hm,hr],fun h0=>(he (hr.symm.trans h0)).elim,fun _=>rfl,by rw[if_neg (by omega)];exact h,Nat.le_refl _,by rw[if_neg (by omega)];exact hF⟩
theorem y1R (hF:Few N P) {v:Vp} (hv:v.m.length≤N) (h16:P.l.length<16):Few N (i0J P v).1:=by
 unfold i0J
 rw[if_neg (by omega)]
 intro w hw
 rcases List.mem_append.1 hw with h1|h1
 ·exact hF w h1
 ·rw[List.mem_singleton.1 h1];exact hv
theorem y1S {v:Vp} (h16:P.l.length<16):(i0J P v).2.2=0∧(i0J P v).2.1=P.next:=by unfold i0J;rw[if_neg (by omega)];exact⟨rfl,rfl⟩
theorem y1T {v:Vp} (h16: ¬P.l.length<16):(i0J P v).2.2=13:=by unfold i0J;rw[if_pos (by omega)]
theorem J.none_next (h:J s G P):a0H s.next s.vols=none:=by
 cases e:a0H s.next s.vols with
 |none=>rfl
 |some y=>
  obtain⟨w,hw,e2⟩:=h.back _ (h.ci.mem e)
  have:=(h.ids w hw).2
  simp only at e2
  rw[h.next]at e2;omega
theorem t2I:k0X [] (b0D G 0)↔ ∀j,b0D G 0 j=a0T 256:=⟨fun h j=>h.eq j,fun h=>⟨n1L,fun x hx=>(by cases hx),h⟩⟩
theorem J.create (h:J s G P) (hF:Few N P) (hn:P.next<1000000000) (hroom:40≤b0U s) (size:Int):v0C s G P (g0J size) (f0G P size) N:=by
 have hlen:=h.len
 by_cases hs:size<1∨2048<size
 ·exact v0C.no h hF (e:=4) (by decide) (by unfold f0G;rw[if_pos hs]) (by unfold g0J;rw[if_pos hs];rfl)
 by_cases h16:P.l.length<16
 ·obtain⟨s',e1,c1,v1,n1,p1,b1,f1⟩:=h.ci.create (size:=size) (by omega) (by omega) h.none_next (by omega)
  have er:f0G P size=i0J P {v0 with size:=size} :=by unfold f0G;rw[if_neg hs]
  rw[er]
  obtain⟨r1,r2⟩:=y1S (P:=P) (v:= {v0 with size:=size}) h16
  refine⟨s',s.next,by rw[e1,r1],fun _=>by rw[r2,h.next],fun hh=>(hh r1).elim,?_,f1,?_⟩
  ·rw[if_pos r1]
   have hm:k0X [] (b0D G 0):=t2I.2 fun j=>by rw[h2I h.ci.inv.zero]
   exact h.add (x:= {j0I with size:=size}) (v:= {v0 with size:=size}) hn h16 c1 v1 (fun _ _=>rfl) n1 p1 b1 ⟨rfl,rfl,rfl,hm⟩
  ·rw[if_pos r1];exact y1R hF (Nat.zero_le _) h16
 ·refine v0C.no h hF (e:=13) (by decide) (by unfold f0G;rw[if_neg hs];exact y1T h16) ?_
  unfold g0J l0V
  rw[if_neg hs]
  simp only
  rw[if_pos (by omega)]
theorem J.copy (h:J s G P) (hF:Few N P) (hn:P.next<1000000000) (hroom:40≤b0U s) (id:Int) (only:Bool):v0C s G P (h0X id only) (j0E P id only) N:=by
 have hlen:=h.len
 cases hf:d0E P.l id with
 |none=>exact v0C.no h hF (e:=5) (by decide) (by unfold j0E;rw[hf]) (by unfold h0X;rw[h.missing hf])
 |some i=>
  obtain⟨hi,x,he,hx,hr⟩:=h.found hf
  have er:j0E P id only=i0J P {v0 with parent:=id,only:=only,size:=(P.l.getD i v0).size,m:=(P.l.getD i v0).m} :=by unfold j0E;rw[hf]
  by_cases h16:P.l.length<16
  ·obtain⟨s',e1,c1,v1,n1,p1,b1,f1⟩:=h.ci.copy (only:=only) hx (by omega) h.none_next (by omega)
   rw[er]
   obtain⟨r1,r2⟩:=y1S (P:=P) (v:= {v0 with parent:=id,only:=only,size:=(P.l.getD i v0).size,m:=(P.l.getD i v0).m}) h16
   refine⟨s',s.next,by rw[e1,r1],fun _=>by rw[r2,h.next],fun hh=>(hh r1).elim,?_,f1,?_⟩
   ·rw[if_pos r1]
    exact h.add (x:= {j0I with parent:=id,only:=only,size:=x.size,root:=x.root}) (v:= {v0 with parent:=id,only:=only,size:=(P.l.getD i v0).size,m:=(P.l.getD i v0).m}) hn h16 c1 v1 (fun _ _=>rfl) n1 p1 b1 ⟨rfl,rfl,hr.size,hr.map⟩
   ·rw[if_pos r1];exact y1R hF (s0Q hF hi) h16
  ·refine v0C.no h hF (e:=13) (by decide) (by rw[er];exact y1T h16) ?_
   unfold h0X
   rw[hx]
   unfold l0V
   simp only
   rw[if_pos (by omega)]
theorem j1R (m:List Lf) (at_ a:Nat): ∀b,k0B m at_ (a+b)=k0B m at_ a++k0B m (at_+a) b
 |0=>by rw[Nat.add_zero];exact(List.append_nil _).symm
 |b+1=>by rw[←Nat.add_assoc,k0B,j1R m at_ a b,k0B,List.append_assoc,Nat.add_assoc]
theorem n1V {m:List Lf} (hm:o0N m) (at_:Nat): ∀q,q≤4-at_%4→k0B m at_ q=((g0R (at_/4:Nat) m).drop (at_%4*64)).take (q*64)
 |0,_=>by simp[k0B]
 |q+1,hq=>by
  have hl:=hm.get_len ((at_/4:Nat):Int)
  rw[k0B,n1V hm at_ q (by omega),show(at_+q)/4=at_/4 by omega,show(at_+q)%4=at_%4+q by omega,Nat.succ_mul,List.take_add,List.drop_drop,←Nat.add_mul]
theorem t1P {m:List Lf} {f:Nat→B} (h:k0X m f): ∀(k at_ n:Nat),n≤k→a1Q f k at_ n=k0B m at_ n
 |0,at_,n,hn=>by
  obtain rfl:n=0:=by omega
  rfl
 |k+1,at_,n,hn=>by
  unfold a1Q
  by_cases h0:n=0
  ·rw[if_pos h0,h0];rfl
  ·rw[if_neg h0,t1P h k _ _ (by omega),h.eq,←n1V h.ok at_ _ (by omega),←j1R,show min n (4-at_%4)+(n-min n (4-at_%4))=n by omega]
theorem J.read (h:J s G P) (id at_ n:Int): ∃s',o0T id at_ n s=(.ok (o0M P id at_ n),s')∧J s' G P∧b0U s≤b0U s':=by
 cases hf:d0E P.l id with
 |none=>
  obtain⟨s',e1,t1⟩:=h.ci.failed0 (t1O id at_ n) (er:=5) (t:= {s with depth:=1}) (by unfold n0P;exact a0Q (show find id {s with depth:=1} =(.err 5,{s with depth:=1}) by unfold find;rw[show a0H id ({s with depth:=1} :St).vols=none from h.missing hf])) (by decide)
  refine⟨s',?_,h.still t1,t1.room⟩
  unfold o0T o0M
  rw[a0A e1,hf];rfl
 |some i=>
  obtain⟨hi,x,he,hx,hr⟩:=h.found hf
  have hsz:=h.size hx
  have hw:=a1W hr.size hsz.2.2 at_ n {s with depth:=1}
  by_cases hb:o0A (P.l.getD i v0) at_ n=true
  ·rw[if_pos hb]at hw
   obtain⟨s',e1,t1⟩:=h.ci.failed0 (t1O id at_ n) (er:=6) (t:= {s with depth:=1}) (by
    unfold n0P
    rw[a0A (show find id {s with depth:=1} =(.ok x,{s with depth:=1}) by unfold find;rw[show a0H id ({s with depth:=1} :St).vols=some x from hx])]
    exact a0Q hw) (by decide)
   refine⟨s',?_,h.still t1,t1.room⟩
   unfold o0T o0M
   rw[a0A e1,hf]
   simp only
   rw[if_pos hb];rfl
  ·have hbad: ¬(at_<0∨n<0∨(P.l.getD i v0).size<at_∨(P.l.getD i v0).size-at_<n):=fun hh=>hb (decide_eq_true hh)
   have hsv:=hr.size
   have e1:=h.ci.read (at_:=at_.toNat) (n:=n.toNat) hx (by omega)
   rw[Int.toNat_of_nonneg (by omega),Int.toNat_of_nonneg (by omega)]at e1
   refine⟨s,?_,h,Nat.le_refl _⟩
   rw[e1,t1P hr.map _ _ _ (Nat.le_refl _)]
   unfold o0M
   rw[hf]
   simp only
   rw[if_neg hb]
theorem J.epoch_ (h:J s G P) (n:Int):J {s with epoch:=n} G {P with epoch:=n} :=
 ⟨⟨h.ci.inv.other rfl rfl rfl rfl rfl ⟨h.ci.inv.u.m.refs,h.ci.inv.u.m.young,h.ci.inv.u.m.index,h.ci.inv.u.m.vols⟩ h.ci.inv.u.keep,h.ci.idx,h.ci.kid,h.ci.ids,h.ci.dep,h.ci.log,h.ci.gone,h.ci.few⟩,h.next,h.pos,h.bits,rfl,h.len,h.ord,h.ids,h.vol,h.back⟩
theorem J.sum (h:J s G P) {id:Int} {x:Ent} (hx:a0H id s.vols=some x):t0W id s=(.ok (f0I G x.root,0),s):=by
 have e0:c1V id {s with depth:=1} =(.ok (f0I G x.root),{s with depth:=1}):=by
  unfold c1V
  rw[a0A (show find id {s with depth:=1} =(.ok x,{s with depth:=1}) by unfold find;rw[show a0H id ({s with depth:=1} :St).vols=some x from hx])]
  unfold f1P
  rw[a0A (h.ci.deep.loadK (h.ci.kid _ (h.ci.mem hx)))];rfl
 unfold t0W
 rw[a0A (r0U h.ci e0 (Rel.refl h.ci.deep.u)),h2C h.ci.dep h.ci.log h.ci.gone]
 rfl
end
end
end Go.Sb

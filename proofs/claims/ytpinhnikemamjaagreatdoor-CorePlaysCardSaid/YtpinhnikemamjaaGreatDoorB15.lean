/- Part of the proof; no statement of its own. -/
import Derived.Test.YtpinhnikemamjaaGreatDoorB14
set_option linter.all false
set_option maxRecDepth 4000
set_option maxHeartbeats 4000000
namespace Go.Sb
section
structure c2T (G:Gh) (v:Vp) (x:Ent):Prop where
 parent:x.parent=v.parent
 only:x.only=v.only
 size:x.size=v.size
 born:x.born=v.born
 map:k0W v.m (a0W G x.root)
structure J (s:St) (G:Gh) (P:Rp):Prop where
 ci:CI s G
 next:s.next=P.next
 pos:1≤P.next
 bits:s.bits=P.bits
 epoch:s.epoch=P.epoch
 len:s.vols.length=P.l.length
 ord:P.l.Pairwise fun a b=>a.id<b.id
 ids: ∀v∈P.l,1≤v.id∧v.id<P.next
 vol: ∀v∈P.l,∃x,a0E v.id s.vols=some x∧c2T G v x
 back: ∀p∈s.vols,∃v∈P.l,v.id=p.1
section
variable {s s':St} {G G':Gh} {P:Rp}
theorem h0Z {l:List Vp} {id:Int} {i:Nat} (h:c0O l id=some i): ∃hi:i<l.length,l[i].id=id:=by
 unfold c0O at h
 rw[List.findIdx?_eq_some_iff_getElem]at h
 exact⟨h.1,by simpa using h.2.1⟩
theorem h2O {l:List Vp} {id:Int} (h:c0O l id=none): ∀v∈l,v.id≠id:=by
 unfold c0O at h
 rw[List.findIdx?_eq_none_iff]at h
 exact fun v hv=>by simpa using h v hv
theorem d1P {l:List Vp} (h:l.Pairwise fun a b=>a.id<b.id) {i j:Nat} (hi:i<l.length) (hj:j<l.length) (hne:i≠j):l[i].id≠l[j].id:=by
 rcases Nat.lt_or_gt_of_ne hne with h1|h1
 ·have:=List.pairwise_iff_getElem.1 h i j hi hj h1;omega
 ·have:=List.pairwise_iff_getElem.1 h j i hj hi h1;omega
theorem J.found (h:J s G P) {id:Int} {i:Nat} (hf:c0O P.l id=some i): ∃(_:i<P.l.length) (x:Ent),(P.l.getD i v0).id=id∧a0E id s.vols=some x∧c2T G (P.l.getD i v0) x:=by
 obtain⟨hi,he⟩:=h0Z hf
 obtain⟨x,hx,hr⟩:=h.vol _ (List.getElem_mem hi)
 rw[r0B hi]
 exact⟨hi,x,he,by rw[←he];exact hx,hr⟩
theorem J.missing (h:J s G P) {id:Int} (hf:c0O P.l id=none):a0E id s.vols=none:=by
 cases e:a0E id s.vols with
 |none=>rfl
 |some x=>
  obtain⟨v,hv,he⟩:=h.back _ (h.ci.mem e)
  exact(h2O hf v hv he).elim
theorem J.others (h:J s G P) {id:Int} {i:Nat} (hi:i<P.l.length) (he:(P.l.getD i v0).id=id):r0A P i (n0M s G id):=by
 have hm:=h.ci.inv.u.m.vols
 rw[r0B hi]at he
 refine⟨fun k hk hne=> ?_,fun f hf=> ?_⟩
 ·obtain⟨x,hx,hr⟩:=h.vol _ (List.getElem_mem hk)
  have hid:P.l[k].id≠id:=by rw[←he];exact d1P h.ord hk hi hne
  rw[r0B hk]
  refine⟨a0W G x.root,List.mem_map.2 ⟨(P.l[k].id,x),?_,rfl⟩,hr.map⟩
  rw[←e0Q (j0U id hm),c0M id _ hm,if_neg (Ne.symm hid)]
  exact hx
 ·obtain⟨⟨j,x⟩,hp,rfl⟩:=List.mem_map.1 hf
  have h1:=(e0Q (j0U id hm)).2 hp
  rw[c0M id _ hm]at h1
  split at h1
  ·cases h1
  ·rename_i hne
   obtain⟨v,hv,hj⟩:=h.back _ ((e0Q hm).1 h1)
   obtain⟨k,hk,rfl⟩:=List.mem_iff_getElem.1 hv
   simp only at hj
   obtain⟨y,hy,hr⟩:=h.vol _ (List.getElem_mem hk)
   rw[hj,h1]at hy
   cases hy
   refine⟨k,hk,fun e=> ?_,by rw[r0B hk];exact hr.map⟩
   subst e
   exact hne (he.symm.trans hj)
theorem CI.uniq (h:CI s G) {Ms:List (Nat→B)} (hM: ∀f∈Ms,∃r,a0Y G 3 r∧f=a0W G r):o0X Ms s.bits:=by
 have leaf: ∀f∈Ms,∀j,a0R (f j)=false→ ∃a ats,a0E a G=some (.ext (f j) ats):=fun f hf j hz=>by
  obtain⟨r,hr,rfl⟩:=hM f hf
  by_cases hj:j<512
  case neg=>unfold a0W at hz;rw[if_neg hj,d0L]at hz;cases hz
  rcases h.inv.leafKid 2 hr j with h0| ⟨d,ats,ho⟩
  ·unfold a0W d0B at hz
   rw[if_pos hj,h0,h.inv.zero]at hz
   simp[d0L]at hz
  ·exact⟨_,ats,by rw[ho];unfold a0W d0B;rw[if_pos hj,ho]⟩
 intro m1 h1 m2 h2 i j z1 z2 hk
 obtain⟨a1,t1,e1⟩:=leaf m1 h1 i z1
 obtain⟨a2,t2,e2⟩:=leaf m2 h2 j z2
 have g1:=(h.idx (key s.bits (Sha.sum (m1 i))) a1).2 ⟨_,_,e1,rfl⟩
 have g2:=(h.idx (key s.bits (Sha.sum (m1 i))) a2).2 ⟨_,_,e2,hk⟩
 rw[g1]at g2
 cases g2
 rw[e1]at e2
 simp only[Option.some.injEq,Ob.ext.injEq]at e2
 exact e2.1
theorem J.uniq (h:J s G P) {id:Int} {x:Ent} (hx:a0E id s.vols=some x):o0X (a0W G x.root::n0M s G id) P.bits:=by
 rw[←h.bits]
 refine h.ci.uniq fun f hf=> ?_
 rcases List.mem_cons.1 hf with rfl|hf
 ·exact⟨x.root,h.ci.kid _ (h.ci.mem hx),rfl⟩
 ·obtain⟨p,hp,rfl⟩:=List.mem_map.1 hf
  exact⟨_,h.ci.kid _ (n0L hp),rfl⟩
theorem J.still (h:J s G P) (t:q1S s s' G):J s' G P:=
 ⟨t.ci,t.next.trans h.next,h.pos,t.bits.trans h.bits,t.epoch.trans h.epoch,t.perm.length_eq.trans h.len,h.ord,h.ids,fun v hv=>by obtain⟨x,hx,hr⟩:=h.vol v hv;exact⟨x,(t.vols v.id).trans hx,hr⟩,fun p hp=>h.back p (t.perm.mem_iff.1 hp)⟩
theorem J.few (h:J s G P):P.l.length≤16:=h.len▸h.ci.few
theorem J.set (h:J s G P) {id:Int} {i:Nat} {x y:Ent} {v:Vp} (hi:i<P.l.length) (he:(P.l.getD i v0).id=id) (hx:a0E id s.vols=some x) (c:CI s' G') (hv:s'.vols=b0T id y s.vols) (ho: ∀p∈b0C id s.vols,a0W G' p.2.root=a0W G p.2.root)
 (h1:s'.next=s.next) (h2:s'.epoch=s.epoch) (h3:s'.bits=s.bits) (hvid:v.id=id) (hr:c2T G' v y):J s' G' {P with l:=P.l.set i v} :=by
 have hm:=h.ci.inv.u.m.vols
 rw[r0B hi]at he
 have hids:(P.l.set i v).map (·.id)=P.l.map (·.id):=by
  rw[List.map_set,hvid]
  have e:(P.l.map (·.id))[i]'(by simpa using hi)=id:=by simpa using he
  rw[←e];exact List.set_getElem_self _
 have hvo: ∀w∈P.l.set i v,w=v∨(w∈P.l∧w.id≠id):=fun w hw=>by
  obtain⟨k,hk,rfl⟩:=List.mem_iff_getElem.1 hw
  have hk':k<P.l.length:=by simpa using hk
  rw[List.getElem_set]
  split
  ·exact .inl rfl
  ·rename_i hne;exact .inr ⟨List.getElem_mem hk',by rw[←he];exact d1P h.ord hk' hi (Ne.symm hne)⟩
 refine⟨c,h1.trans h.next,h.pos,h3.trans h.bits,h2.trans h.epoch,?_,?_,fun w hw=> ?_,fun w hw=> ?_,fun p hp=> ?_⟩
 ·rw[hv,(u0T hx).length_eq,List.length_set,←h.len,(o0P hx).length_eq];rfl
 ·have h4:(P.l.map (·.id)).Pairwise (· < ·):=List.pairwise_map.2 h.ord
  rw[←hids]at h4
  exact List.pairwise_map.1 h4
 ·rcases hvo w hw with rfl| ⟨hw,_⟩
  ·rw[hvid,←he];exact h.ids _ (List.getElem_mem hi)
  ·exact h.ids w hw
 ·rw[hv]
  rcases hvo w hw with rfl| ⟨hw,hne⟩
  ·exact⟨y,by rw[j0C,if_pos hvid.symm],hr⟩
  ·obtain⟨z,hz,hzr⟩:=h.vol w hw
   refine⟨z,by rw[j0C,if_neg (Ne.symm hne)];exact hz,hzr.parent,hzr.only,hzr.size,hzr.born,?_⟩
   have hp:(w.id,z)∈b0C id s.vols:=by rw[←e0Q (j0U id hm),c0M id _ hm,if_neg (Ne.symm hne)];exact hz
   rw[ho _ hp];exact hzr.map
 ·rw[hv]at hp
  have: ∃w∈P.l,w.id=p.1:=by
   rcases List.mem_cons.1 ((u0T hx).mem_iff.1 hp)with rfl|hq
   ·exact⟨_,List.getElem_mem hi,he⟩
   ·exact h.back p (n0L hq)
  obtain⟨w,hw,e⟩:=this
  have:w.id∈(P.l.set i v).map (·.id):=by rw[hids];exact List.mem_map.2 ⟨w,hw,rfl⟩
  obtain⟨w',hw',e'⟩:=List.mem_map.1 this
  exact⟨w',hw',e'.trans e⟩
theorem J.del (h:J s G P) {id:Int} {i:Nat} {x:Ent} (hi:i<P.l.length) (he:(P.l.getD i v0).id=id) (hx:a0E id s.vols=some x) (c:CI s' G') (hv:s'.vols=b0C id s.vols) (ho: ∀p∈b0C id s.vols,a0W G' p.2.root=a0W G p.2.root)
 (h1:s'.next=s.next) (h2:s'.epoch=s.epoch) (h3:s'.bits=s.bits):J s' G' {P with l:=P.l.eraseIdx i} :=by
 have hm:=h.ci.inv.u.m.vols
 rw[r0B hi]at he
 have hin: ∀w∈P.l.eraseIdx i,w∈P.l∧w.id≠id:=fun w hw=>by
  obtain⟨k,hk,rfl⟩:=List.mem_iff_getElem.1 hw
  rw[List.length_eraseIdx_of_lt hi]at hk
  rw[List.getElem_eraseIdx]
  split
  ·rename_i hlt;exact⟨List.getElem_mem _,by rw[←he];exact d1P h.ord _ hi (by omega)⟩
  ·rename_i hlt;exact⟨List.getElem_mem _,by rw[←he];exact d1P h.ord _ hi (by omega)⟩
 have hout: ∀w∈P.l,w.id≠id→w∈P.l.eraseIdx i:=fun w hw hne=>by
  obtain⟨k,hk,rfl⟩:=List.mem_iff_getElem.1 hw
  rw[List.mem_eraseIdx_iff_getElem]
  exact⟨k,hk,fun e=>by subst e;exact hne he,rfl⟩
 refine⟨c,h1.trans h.next,h.pos,h3.trans h.bits,h2.trans h.epoch,?_,h.ord.sublist (List.eraseIdx_sublist ..),fun w hw=>h.ids w (hin w hw).1,fun w hw=> ?_,fun p hp=> ?_⟩
 ·show _=(P.l.eraseIdx i).length
  rw[hv,List.length_eraseIdx_of_lt hi,←h.len,(o0P hx).length_eq,List.length_cons];omega
 ·obtain⟨hw1,hne⟩:=hin w hw
  obtain⟨z,hz,hzr⟩:=h.vol w hw1
  have hp:(w.id,z)∈b0C id s.vols:=by rw[←e0Q (j0U id hm),c0M id _ hm,if_neg (Ne.symm hne)];exact hz
  refine⟨z,by rw[hv,c0M id _ hm,if_neg (Ne.symm hne)];exact hz,hzr.parent,hzr.only,hzr.size,hzr.born,?_⟩
  rw[ho _ hp];exact hzr.map
 ·rw[hv]at hp
  obtain⟨w,hw,e⟩:=h.back p (n0L hp)
  refine⟨w,hout w hw fun e2=> ?_,e⟩
  have h4:=(e0Q (j0U id hm) (k:=p.1) (v:=p.2)).2 hp
  rw[c0M id _ hm,if_pos (e2.symm.trans e)]at h4
  cases h4
theorem J.add (h:J s G P) {x:Ent} {v:Vp} (hn:P.next<1000000000) (h16:P.l.length<16) (c:CI s' G') (hv:s'.vols=s.vols++ [(s.next,{x with id:=s.next,born:=s.epoch})]) (ho: ∀p∈s.vols,a0W G' p.2.root=a0W G p.2.root)
 (h1:s'.next=m0N (s.next+1)) (h2:s'.epoch=s.epoch) (h3:s'.bits=s.bits) (hr:x.parent=v.parent∧x.only=v.only∧x.size=v.size∧k0W v.m (a0W G' x.root)):J s' G' (g0Q P v).1:=by
 have hpos:=h.pos
 unfold g0Q
 rw[if_neg (by omega)]
 have hnone:a0E s.next s.vols=none:=by
  cases e:a0E s.next s.vols with
  |none=>rfl
  |some y=>
   obtain⟨w,hw,e2⟩:=h.back _ (h.ci.mem e)
   have:=(h.ids w hw).2
   simp only at e2
   rw[h.next]at e2;omega
 refine⟨c,?_,by show 1≤P.next+1;omega,h3.trans h.bits,h2.trans h.epoch,?_,?_,fun w hw=> ?_,fun w hw=> ?_,fun p hp=> ?_⟩
 ·show s'.next=P.next+1
  rw[h1,h.next];unfold m0N;omega
 ·rw[hv];simp[h.len]
 ·refine List.pairwise_append.2 ⟨h.ord,List.pairwise_singleton _ _,fun a ha b hb=> ?_⟩
  rw[List.mem_singleton.1 hb];exact(h.ids a ha).2
 ·rcases List.mem_append.1 hw with hw|hw
  ·have:=h.ids w hw;exact⟨this.1,by show w.id<P.next+1;omega⟩
  ·rw[List.mem_singleton.1 hw];exact⟨h.pos,by show P.next<P.next+1;omega⟩
 ·rw[hv]
  rcases List.mem_append.1 hw with hw|hw
  ·obtain⟨z,hz,hzr⟩:=h.vol w hw
   refine⟨z,by rw[i1B,hz],hzr.parent,hzr.only,hzr.size,hzr.born,?_⟩
   rw[ho _ (h.ci.mem hz)];exact hzr.map
  ·rw[List.mem_singleton.1 hw]
   refine⟨{x with id:=s.next,born:=s.epoch},?_,hr.1,hr.2.1,hr.2.2.1,h.epoch,hr.2.2.2⟩
   show a0E P.next _=_
   rw[i1B,←h.next,hnone];simp
 ·rw[hv]at hp
  rcases List.mem_append.1 hp with hp|hp
  ·obtain⟨w,hw,e⟩:=h.back p hp;exact⟨w,List.mem_append_left _ hw,e⟩
  ·rw[List.mem_singleton.1 hp];exact⟨_,List.mem_append_right _ (List.mem_singleton.2 rfl),h.next.symm⟩
end
end
section
def Few (N:Nat) (P:Rp):Prop:= ∀v∈P.l,v.m.length≤N
theorem Few.mono {N M:Nat} {P:Rp} (h:Few N P) (hm:N≤M):Few M P:=fun v hv=>Nat.le_trans (h v hv) hm
def m1W (s:St) (P:Rp) (m:M Int) (r:Rp×Int) (K N:Nat):Prop:= ∃s' G',m s=(.ok r.2,s')∧J s' G' (if r.2=0 then r.1 else P)∧b0K s≤b0K s'+K∧Few N (if r.2=0 then r.1 else P)
theorem u0V {P:Rp} {id at_:Int} {data:B} {i:Nat} (h:c0O P.l id=some i):j0E P id at_ data=if(P.l.getD i v0).only=true then(P,7)else if data.length%64≠0 then(P,4)else if m0B (P.l.getD i v0) at_ (data.length/64:Nat)=true then(P,6)else
 if(d0D i data.length P at_.toNat data).2≠0 then(P,(d0D i data.length P at_.toNat data).2)else((d0D i data.length P at_.toNat data).1,0):=by unfold j0E;rw[h]
theorem x0J {P:Rp} {id at_ n:Int} {i:Nat} (h:c0O P.l id=some i):l0J P id at_ n=if(P.l.getD i v0).only=true then(P,7)else if m0B (P.l.getD i v0) at_ n=true then(P,6)else d0T P i at_.toNat (at_+n).toNat:=by unfold l0J;rw[h]
def j0H (P:Rp) (i:Nat) (size:Int):Rp×Int:=if size<(P.l.getD i v0).size then d0T P i size.toNat (P.l.getD i v0).size.toNat else(P,0)
theorem s0Z {P:Rp} {id size:Int} {i:Nat} (h:c0O P.l id=some i):g0U P id size=if(P.l.getD i v0).only=true then(P,7)else if size<1∨2048<size then(P,4)else
 if(j0H P i size).2≠0 then(P,(j0H P i size).2)else({(j0H P i size).1 with l:=(j0H P i size).1.l.set i {(j0H P i size).1.l.getD i v0 with size:=size}},0):=by unfold g0U;rw[h];rfl
section
variable {s:St} {G:Gh} {P:Rp} {N:Nat}
theorem J.fails {m:M Unit} {er:Int} {t:St} {r:Rp×Int} {K M':Nat} (h:J s G P) (hF:Few N P) (hN:N≤M') (hu:UMe m) (e:m (start s 0)=(.err er,t)) (her:er≠0) (hr:r.2=er):m1W s P (a0B (h0V (e0O 0 m)) fun r=>ret r.1) r K M':=by
 obtain⟨s',e1,t1⟩:=h.ci.failed hu e her
 refine⟨s',G,by rw[a0A e1,hr];rfl,?_,by have:=t1.room;omega,?_⟩
 ·rw[if_neg (by omega)];exact h.still t1
 ·rw[if_neg (by omega)];exact hF.mono hN
theorem b1I {x:Ent} {v:Vp} (hx:x.size=v.size) (hs:x.size≤2048) (a n:Int) (s:St):g0S x a n s=if m0B v a n then(.err 6,s)else(.ok (),s):=by
 unfold g0S l0E m0B
 rw[if_neg (by omega),←hx]
 by_cases h:a<0∨n<0∨x.size<a∨x.size-a<n
 ·rw[if_pos h,decide_eq_true h];rfl
 ·rw[if_neg h,decide_eq_false h];rfl
theorem J.size (h:J s G P) {id:Int} {x:Ent} (hx:a0E id s.vols=some x):x.id=id∧1≤x.size∧x.size≤2048:=h.ci.ids _ (h.ci.mem hx)
theorem f1M {i:Nat} {v:Vp} {M':Nat} (hF:Few N P) (hN:N≤M') (hv:v.m.length≤M'):Few M' {P with l:=P.l.set i v} :=fun w hw=>by
 rcases List.mem_or_eq_of_mem_set hw with h1|rfl
 ·exact(hF.mono hN) w h1
 ·exact hv
theorem t0A (hF:Few N P) {i:Nat} (hi:i<P.l.length):(P.l.getD i v0).m.length≤N:=by rw[r0B hi];exact hF _ (List.getElem_mem hi)
theorem J.delete (h:J s G P) (hF:Few N P) (id:Int):m1W s P (r0U id) (g0T P id) 0 N:=by
 unfold r0U
 cases hf:c0O P.l id with
 |none=>
  refine h.fails hF (Nat.le_refl _) (c2S id) (er:=5) (t:=start s 0) ?_ (by decide) (by unfold g0T;rw[hf])
  unfold p0O
  exact a0I (show find id (start s 0)=(.err 5,start s 0) by unfold find;rw[show a0E id (start s 0).vols=none from h.missing hf])
 |some i=>
  obtain⟨hi,x,he,hx,hr⟩:=h.found hf
  obtain⟨s',G',e1,c1,v1,m1,n1,p1,b1,f1⟩:=h.ci.deleted hx
  have er:g0T P id=({P with l:=P.l.eraseIdx i},0):=by unfold g0T;rw[hf]
  rw[er]
  refine⟨s',G',by rw[a0A e1];rfl,?_,by omega,?_⟩
  ·exact h.del hi he hx c1 v1 m1 n1 p1 b1
  ·exact fun v hv=>hF v (List.mem_of_mem_eraseIdx hv)
theorem J.write (h:J s G P) (hF:Few N P) (id at_:Int) {data:B} (hd:data.length%64=0→data.length≤768) (hroom:128≤b0K s):m1W s P (h0I id at_ data) (j0E P id at_ data) 96 (N+4):=by
 unfold h0I
 cases hf:c0O P.l id with
 |none=>exact h.fails hF (by omega) (u0U id at_ data) (er:=5) (t:=start s 0) (by unfold i0H;exact a0I (b1G (h.missing hf))) (by decide) (by unfold j0E;rw[hf])
 |some i=>
  obtain⟨hi,x,he,hx,hr⟩:=h.found hf
  have hsz:=h.size hx
  have er:=u0V (at_:=at_) (data:=data) hf
  by_cases ho:(P.l.getD i v0).only=true
  ·rw[if_pos ho]at er
   exact h.fails hF (by omega) (u0U id at_ data) (er:=7) (t:=start s 0) (by unfold i0H;exact a0I (b1H hx (hr.only.trans ho))) (by decide) (by rw[er])
  rw[if_neg ho]at er
  have hop:=h.ci.copened hx (show x.only=false by rw[hr.only];simpa using ho)
  by_cases h64:data.length%64≠0
  ·rw[if_pos h64]at er
   exact h.fails hF (by omega) (u0U id at_ data) (er:=4) (t:=start s 0) (by unfold i0H;rw[a0A hop,if_pos h64];rfl) (by decide) (by rw[er])
  rw[if_neg h64]at er
  have hd:=hd (by omega)
  have hw:=b1I hr.size hsz.2.2 at_ (data.length/64:Nat) (start s 0)
  by_cases hb:m0B (P.l.getD i v0) at_ (data.length/64:Nat)=true
  ·rw[if_pos hb]at er hw
   exact h.fails hF (by omega) (u0U id at_ data) (er:=6) (t:=start s 0) (by unfold i0H;rw[a0A hop,if_neg h64];exact a0I hw) (by decide) (by rw[er])
  rw[if_neg hb]at er hw
  have hbad: ¬(at_<0∨((data.length/64:Nat):Int)<0∨(P.l.getD i v0).size<at_∨(P.l.getD i v0).size-at_<((data.length/64:Nat):Int)):=fun hh=>hb (decide_eq_true hh)
  have hsv:=hr.size
  have e0:i0H id at_ data (start s 0)=a0B (e0N x at_.toNat data) l0Q (start s 0):=by
   unfold i0H;rw[a0A hop,if_neg h64,a0A hw]
  have hC:=y0H
  obtain⟨m,hm⟩: ∃m,m=data.length/64:=⟨_,rfl⟩
  have hol:=h.ci.othersLen hx
  have hmC:m*l0V≤12*12666:=Nat.mul_le_mul (by omega) hC
  have hpat:=Inv.patch l0V rfl data.length m (x:=x) (at_:=at_.toNat) (data:=data) (h.ci.roots hx) (h.ci.start 0).2 (h.ci.kid _ (h.ci.mem hx)) (h.ci.othersKid id) (by omega) (by omega) (by omega) (g1K h.ci (by omega) 0) (by omega)
  rw[k1H,show(start s 0).bits=P.bits from h.bits]at hpat
  have hrel:=r0C i data.length P (a0W G x.root) (n0M s G id) at_.toNat data hi (h.others hi he) hr.map (h.uniq hx) (by omega) (by omega) (Nat.le_refl _)
  rcases hpat with ⟨r,u,G',e1,i2,t2,k2,k3,m2,n2⟩| ⟨e,u,e1,he9⟩
  ·rcases hrel with ⟨g1,_⟩| ⟨_,m',g2,g3,_,g5,_⟩
   ·exact(n2 g1).elim
   ·obtain⟨s',e3,c3,v3,o3,q1,q2,q3,q4⟩:=h.ci.edited hx e0 e1 hsz.1 hsz.2 i2 t2 k2 k3 (by omega)
    rw[g2,if_neg (fun hh=>hh rfl)]at er
    rw[er]
    refine⟨s',G',by rw[a0A e3];rfl,?_,by omega,?_⟩
    ·rw[←m2]at g3
     exact h.set hi he hx c3 v3 o3 q1 q2 q3 he ⟨hr.parent,hr.only,hr.size,hr.born,g3⟩
    ·refine f1M hF (by omega) ?_
     show m'.length≤N+4
     have:=t0A hF hi
     unfold c2P at g5
     split at g5<;>omega
  ·have h3:b0K (start s 0)=b0K s:=rfl
   have h4:(start s 0).keep=((2*(s.vols.length+0):Nat):Int):=rfl
   have hfew:=h.ci.few
   rcases he9 with ⟨_,h8⟩| ⟨h9,hno⟩
   ·rw[h3,h4]at h8;omega
   ·rcases hrel with ⟨_,g2⟩| ⟨g1,_⟩
    ·rw[if_pos (by rw[g2];decide),g2]at er
     exact h.fails hF (by omega) (u0U id at_ data) (er:=9) (t:=u) (by rw[e0];subst h9;exact a0I e1) (by decide) (by rw[er])
    ·exact(g1 hno).elim
theorem J.noughts (h:J s G P) (hF:Few N P) {id:Int} {i:Nat} {x:Ent} {fr u:Nat} (hi:i<P.l.length) (he:(P.l.getD i v0).id=id) (hx:a0E id s.vols=some x) (hr:c2T G (P.l.getD i v0) x) (hfu:fr≤u) (hu:u≤2048) (hN:N≤80) (hroom:80+N*3≤b0K s):
 (∃r t G' m',h0K x fr u (start s 0)=(.ok {x with root:=r},t)∧Inv t G' (r::k0X s id)∧Stp (6*l0V+N*f0W 2) (48+N*3) (start s 0) G t G'∧a0Y G' 3 r∧(∀p∈k0X s id,a0Y G' 3 p∧a0W G' p=a0W G p)∧
  d0T P i fr u=(d0E P i m',0)∧k0W m' (a0W G' r)∧m'.length≤N)∨ ∃t,h0K x fr u (start s 0)=(.err 9,t)∧(d0T P i fr u).2=9:=by
 have hC:=y0H
 have hC2:f0W 2≤12666:=Nat.le_trans (Nat.le_add_left _ 16) hC
 have hol:=h.ci.othersLen hx
 have hNC:N*f0W 2≤80*12666:=Nat.mul_le_mul hN hC2
 have hrel:=s1U (fr:=fr) (u:=u) hi (h.others hi he) hr.map (h.uniq hx) hfu hu
 have hml:=t0A hF hi
 have hcl:=Inv.cclear (L:=N) l0V (f0W 2) rfl rfl (x:=x) (h.ci.roots hx) (h.ci.start 0).2 (h.ci.kid _ (h.ci.mem hx)) (h.ci.othersKid id) hfu hu ⟨Nat.zero_lt_one,by show 1+(6*l0V+N*f0W 2)+10<1000000000;omega,by show s.gone.length+(6*l0V+N*f0W 2)+10<1000000000;rw[h.ci.gone];simp only[List.length_nil];omega⟩ (by omega)
 rw[k1H,show(start s 0).bits=P.bits from h.bits]at hcl
 have hcl:=hcl fun hs hno=>by
  rcases r0C i ((4*((fr+3)/4)-fr)*64) P (a0W G x.root) (n0M s G id) fr (a0K ((4*((fr+3)/4)-fr)*64)) hi (h.others hi he) hr.map (h.uniq hx) (by rw[f0Z];omega) (by rw[f0Z];omega) (by rw[f0Z];exact Nat.le_refl _)with ⟨g1,_⟩| ⟨_,m1,_,g3,_,_,g6⟩
  ·exact(hno g1).elim
  ·exact⟨m1,g3,Nat.le_trans (g6 (v0P _)) hml⟩
 rcases hcl with ⟨r,t,G',e1,i2,t2,k2,k3,m2,n2⟩| ⟨e,t,e1,he9⟩
 ·rcases hrel with ⟨g1,_⟩| ⟨_,m',g2,g3,_,g5⟩
  ·exact(n2 g1).elim
  ·exact .inl ⟨r,t,G',m',e1,i2,t2,k2,k3,g2,by rw[m2];exact g3,by omega⟩
 ·have h3:b0K (start s 0)=b0K s:=rfl
  have h4:(start s 0).keep=((2*(s.vols.length+0):Nat):Int):=rfl
  have hfew:=h.ci.few
  rcases he9 with ⟨_,h8⟩| ⟨h9,hno⟩
  ·rw[h3,h4]at h8;omega
  ·rcases hrel with ⟨_,g2⟩| ⟨g1,_⟩
   ·subst h9;exact .inr ⟨t,e1,g2⟩
   ·exact(g1 hno).elim
theorem q2I (N:Nat) (hN:N≤80):6*l0V+N*f0W 2≤900000000:=by
 have hC:=y0H
 have hC2:f0W 2≤12666:=Nat.le_trans (Nat.le_add_left _ 16) hC
 have:=Nat.mul_le_mul hN hC2
 omega
theorem J.trim (h:J s G P) (hF:Few N P) (id at_ n:Int) (hN:N≤80) (hroom:80+N*3≤b0K s):m1W s P (x0G id at_ n) (l0J P id at_ n) (48+N*3) N:=by
 unfold x0G
 cases hf:c0O P.l id with
 |none=>exact h.fails hF (Nat.le_refl _) (b1F id at_ n) (er:=5) (t:=start s 0) (by unfold r0D;exact a0I (b1G (h.missing hf))) (by decide) (by unfold l0J;rw[hf])
 |some i=>
  obtain⟨hi,x,he,hx,hr⟩:=h.found hf
  have hsz:=h.size hx
  have er:=x0J (at_:=at_) (n:=n) hf
  by_cases ho:(P.l.getD i v0).only=true
  ·rw[if_pos ho]at er
   exact h.fails hF (Nat.le_refl _) (b1F id at_ n) (er:=7) (t:=start s 0) (by unfold r0D;exact a0I (b1H hx (hr.only.trans ho))) (by decide) (by rw[er])
  rw[if_neg ho]at er
  have hop:=h.ci.copened hx (show x.only=false by rw[hr.only];simpa using ho)
  have hw:=b1I hr.size hsz.2.2 at_ n (start s 0)
  by_cases hb:m0B (P.l.getD i v0) at_ n=true
  ·rw[if_pos hb]at er hw
   exact h.fails hF (Nat.le_refl _) (b1F id at_ n) (er:=6) (t:=start s 0) (by unfold r0D;rw[a0A hop];exact a0I hw) (by decide) (by rw[er])
  rw[if_neg hb]at er hw
  have hbad: ¬(at_<0∨n<0∨(P.l.getD i v0).size<at_∨(P.l.getD i v0).size-at_<n):=fun hh=>hb (decide_eq_true hh)
  have hsv:=hr.size
  have e0:r0D id at_ n (start s 0)=a0B (h0K x at_.toNat (at_+n).toNat) l0Q (start s 0):=by
   unfold r0D;rw[a0A hop,a0A hw]
  rw[er]
  rcases h.noughts hF (fr:=at_.toNat) (u:=(at_+n).toNat) hi he hx hr (by omega) (by omega) hN hroom with ⟨r,t,G',m',e1,i2,t2,k2,k3,g2,g3,g5⟩| ⟨t,e1,g2⟩
  ·obtain⟨s',e3,c3,v3,o3,q1,q2,q3,q4⟩:=h.ci.edited hx e0 e1 hsz.1 hsz.2 i2 t2 k2 k3 (q2I N hN)
   rw[g2]
   refine⟨s',G',by rw[a0A e3];rfl,?_,by omega,?_⟩
   ·exact h.set hi he hx c3 v3 o3 q1 q2 q3 he ⟨hr.parent,hr.only,hr.size,hr.born,g3⟩
   ·exact f1M hF (Nat.le_refl _) g5
  ·exact h.fails hF (Nat.le_refl _) (b1F id at_ n) (er:=9) (t:=t) (by rw[e0];exact a0I e1) (by decide) g2
theorem J.resize (h:J s G P) (hF:Few N P) (id size:Int) (hN:N≤80) (hroom:80+N*3≤b0K s):m1W s P (r0V id size) (g0U P id size) (48+N*3) N:=by
 unfold r0V
 cases hf:c0O P.l id with
 |none=>exact h.fails hF (Nat.le_refl _) (v0Q id size) (er:=5) (t:=start s 0) (by unfold l0L;exact a0I (b1G (h.missing hf))) (by decide) (by unfold g0U;rw[hf])
 |some i=>
  obtain⟨hi,x,he,hx,hr⟩:=h.found hf
  have hsz:=h.size hx
  have er:=s0Z (size:=size) hf
  by_cases ho:(P.l.getD i v0).only=true
  ·rw[if_pos ho]at er
   exact h.fails hF (Nat.le_refl _) (v0Q id size) (er:=7) (t:=start s 0) (by unfold l0L;exact a0I (b1H hx (hr.only.trans ho))) (by decide) (by rw[er])
  rw[if_neg ho]at er
  have hop:=h.ci.copened hx (show x.only=false by rw[hr.only];simpa using ho)
  by_cases hs:size<1∨2048<size
  ·rw[if_pos hs]at er
   exact h.fails hF (Nat.le_refl _) (v0Q id size) (er:=4) (t:=start s 0) (by unfold l0L;rw[a0A hop,if_pos hs];rfl) (by decide) (by rw[er])
  rw[if_neg hs]at er
  have hsv:=hr.size
  have e0:l0L id size (start s 0)=a0B (if size<x.size then h0K x size.toNat x.size.toNat else ret x) (fun y=>l0Q {y with size:=size}) (start s 0):=by
   unfold l0L;rw[a0A hop,if_neg hs]
  by_cases hlt:size<x.size
  ·rw[if_pos hlt]at e0
   have ersh:j0H P i size=d0T P i size.toNat (P.l.getD i v0).size.toNat:=by unfold j0H;rw[if_pos (by omega)]
   rw[ersh]at er
   rcases h.noughts hF (fr:=size.toNat) (u:=x.size.toNat) hi he hx hr (by omega) (by omega) hN hroom with ⟨r,t,G',m',e1,i2,t2,k2,k3,g2,g3,g5⟩| ⟨t,e1,g2⟩
   ·rw[a0A e1]at e0
    obtain⟨s',e3,c3,v3,o3,q1,q2,q3,q4⟩:=h.ci.edited (f:=fun _=>(.ok {x with root:=r,size:=size},t)) (y:= {x with root:=r,size:=size}) hx e0 rfl hsz.1 (by show 1≤size∧size≤2048;omega) i2 t2 k2 k3 (q2I N hN)
    rw[hsv]at g2
    rw[g2,if_neg (fun hh=>hh rfl)]at er
    have hra:=x0F (m:=m') hi
    have erl:({d0E P i m' with l:=(d0E P i m').l.set i {(d0E P i m').l.getD i v0 with size:=size}} :Rp)= {P with l:=P.l.set i {P.l.getD i v0 with m:=m',size:=size}} :=by
     rw[hra];unfold d0E;simp only[List.set_set]
    rw[er]
    refine⟨s',G',by rw[a0A e3];rfl,?_,by omega,?_⟩
    ·simp only[if_true]
     rw[erl]
     exact h.set hi he hx c3 v3 o3 q1 q2 q3 he ⟨hr.parent,hr.only,rfl,hr.born,g3⟩
    ·simp only[if_true]
     rw[erl]
     exact f1M hF (Nat.le_refl _) g5
   ·rw[hsv]at g2
    rw[if_pos (by rw[g2];decide)]at er
    exact h.fails hF (Nat.le_refl _) (v0Q id size) (er:=9) (t:=t) (by rw[e0];exact a0I e1) (by decide) (by rw[er];exact g2)
  ·rw[if_neg hlt]at e0
   have ersh:j0H P i size=(P,0):=by unfold j0H;rw[if_neg (by omega)]
   rw[ersh,if_neg (fun hh=>hh rfl)]at er
   obtain⟨i1,x1⟩:=h.ci.start 0
   have hroot:=h.ci.roots hx
   have hkid:=h.ci.kid _ (h.ci.mem hx)
   obtain⟨s',e3,c3,v3,o3,q1,q2,q3,q4⟩:=h.ci.edited (f:=fun _=>(.ok {x with size:=size},start s 0)) (y:= {x with size:=size}) hx e0 rfl hsz.1 (by show 1≤size∧size≤2048;omega) hroot (Stp.refl i1 x1) hkid (fun p hp=>⟨h.ci.othersKid id p hp,rfl⟩) (by omega)
   rw[er]
   refine⟨s',G,by rw[a0A e3];rfl,?_,by omega,?_⟩
   ·exact h.set hi he hx c3 v3 o3 q1 q2 q3 he ⟨hr.parent,hr.only,rfl,hr.born,hr.map⟩
   ·exact f1M hF (Nat.le_refl _) (t0A hF hi)
end
end
section
section
variable {s:St} {G:Gh} {P:Rp} {N:Nat}
def v0R (s:St) (G:Gh) (P:Rp) (m:M (Int×Int)) (r:Rp×Int×Int) (N:Nat):Prop:= ∃s' n,m s=(.ok (n,r.2.2),s')∧(r.2.2=0→n=r.2.1)∧(r.2.2≠0→n=0)∧J s' G (if r.2.2=0 then r.1 else P)∧b0K s≤b0K s'∧Few N (if r.2.2=0 then r.1 else P)
theorem v0R.no (h:J s G P) (hF:Few N P) {m:M (Int×Int)} {r:Rp×Int×Int} {e:Int} (he:e≠0) (hr:r.2.2=e) (hm:m s=(.ok (0,e),s)):v0R s G P m r N:=
 ⟨s,0,by rw[hm,hr],fun h0=>(he (hr.symm.trans h0)).elim,fun _=>rfl,by rw[if_neg (by omega)];exact h,Nat.le_refl _,by rw[if_neg (by omega)];exact hF⟩
theorem z1S (hF:Few N P) {v:Vp} (hv:v.m.length≤N) (h16:P.l.length<16):Few N (g0Q P v).1:=by
 unfold g0Q
 rw[if_neg (by omega)]
 intro w hw
 rcases List.mem_append.1 hw with h1|h1
 ·exact hF w h1
 ·rw[List.mem_singleton.1 h1];exact hv
theorem z1T {v:Vp} (h16:P.l.length<16):(g0Q P v).2.2=0∧(g0Q P v).2.1=P.next:=by unfold g0Q;rw[if_neg (by omega)];exact⟨rfl,rfl⟩
theorem z1U {v:Vp} (h16: ¬P.l.length<16):(g0Q P v).2.2=13:=by unfold g0Q;rw[if_pos (by omega)]
theorem J.none_next (h:J s G P):a0E s.next s.vols=none:=by
 cases e:a0E s.next s.vols with
 |none=>rfl
 |some y=>
  obtain⟨w,hw,e2⟩:=h.back _ (h.ci.mem e)
  have:=(h.ids w hw).2
  simp only at e2
  rw[h.next]at e2;omega
theorem x2S:k0W [] (a0W G 0)↔ ∀j,a0W G 0 j=a0K 256:=⟨fun h j=>h.eq j,fun h=>⟨o1N,fun x hx=>(by cases hx),h⟩⟩
theorem J.create (h:J s G P) (hF:Few N P) (hn:P.next<1000000000) (hroom:40≤b0K s) (size:Int):v0R s G P (g0K size) (e0S P size) N:=by
 have hlen:=h.len
 by_cases hs:size<1∨2048<size
 ·exact v0R.no h hF (e:=4) (by decide) (by unfold e0S;rw[if_pos hs]) (by unfold g0K;rw[if_pos hs];rfl)
 by_cases h16:P.l.length<16
 ·obtain⟨s',e1,c1,v1,n1,p1,b1,f1⟩:=h.ci.create (size:=size) (by omega) (by omega) h.none_next (by omega)
  have er:e0S P size=g0Q P {v0 with size:=size} :=by unfold e0S;rw[if_neg hs]
  rw[er]
  obtain⟨r1,r2⟩:=z1T (P:=P) (v:= {v0 with size:=size}) h16
  refine⟨s',s.next,by rw[e1,r1],fun _=>by rw[r2,h.next],fun hh=>(hh r1).elim,?_,f1,?_⟩
  ·rw[if_pos r1]
   have hm:k0W [] (a0W G 0):=x2S.2 fun j=>by rw[h2L h.ci.inv.zero]
   exact h.add (x:= {h0T with size:=size}) (v:= {v0 with size:=size}) hn h16 c1 v1 (fun _ _=>rfl) n1 p1 b1 ⟨rfl,rfl,rfl,hm⟩
  ·rw[if_pos r1];exact z1S hF (Nat.zero_le _) h16
 ·refine v0R.no h hF (e:=13) (by decide) (by unfold e0S;rw[if_neg hs];exact z1U h16) ?_
  unfold g0K l0U
  rw[if_neg hs]
  simp only
  rw[if_pos (by omega)]
theorem J.copy (h:J s G P) (hF:Few N P) (hn:P.next<1000000000) (hroom:40≤b0K s) (id:Int) (only:Bool):v0R s G P (i0G id only) (i0N P id only) N:=by
 have hlen:=h.len
 cases hf:c0O P.l id with
 |none=>exact v0R.no h hF (e:=5) (by decide) (by unfold i0N;rw[hf]) (by unfold i0G;rw[h.missing hf])
 |some i=>
  obtain⟨hi,x,he,hx,hr⟩:=h.found hf
  have er:i0N P id only=g0Q P {v0 with parent:=id,only:=only,size:=(P.l.getD i v0).size,m:=(P.l.getD i v0).m} :=by unfold i0N;rw[hf]
  by_cases h16:P.l.length<16
  ·obtain⟨s',e1,c1,v1,n1,p1,b1,f1⟩:=h.ci.copy (only:=only) hx (by omega) h.none_next (by omega)
   rw[er]
   obtain⟨r1,r2⟩:=z1T (P:=P) (v:= {v0 with parent:=id,only:=only,size:=(P.l.getD i v0).size,m:=(P.l.getD i v0).m}) h16
   refine⟨s',s.next,by rw[e1,r1],fun _=>by rw[r2,h.next],fun hh=>(hh r1).elim,?_,f1,?_⟩
   ·rw[if_pos r1]
    exact h.add (x:= {h0T with parent:=id,only:=only,size:=x.size,root:=x.root}) (v:= {v0 with parent:=id,only:=only,size:=(P.l.getD i v0).size,m:=(P.l.getD i v0).m}) hn h16 c1 v1 (fun _ _=>rfl) n1 p1 b1 ⟨rfl,rfl,hr.size,hr.map⟩
   ·rw[if_pos r1];exact z1S hF (t0A hF hi) h16
  ·refine v0R.no h hF (e:=13) (by decide) (by rw[er];exact z1U h16) ?_
   unfold i0G
   rw[hx]
   unfold l0U
   simp only
   rw[if_pos (by omega)]
theorem k1I (m:List Lf) (at_ a:Nat): ∀b,k0L m at_ (a+b)=k0L m at_ a++k0L m (at_+a) b
 |0=>by rw[Nat.add_zero];exact(List.append_nil _).symm
 |b+1=>by rw[←Nat.add_assoc,k0L,k1I m at_ a b,k0L,List.append_assoc,Nat.add_assoc]
theorem o1R {m:List Lf} (hm:m0D m) (at_:Nat): ∀q,q≤4-at_%4→k0L m at_ q=((f0M (at_/4:Nat) m).drop (at_%4*64)).take (q*64)
 |0,_=>by simp[k0L]
 |q+1,hq=>by
  have hl:=hm.get_len ((at_/4:Nat):Int)
  rw[k0L,o1R hm at_ q (by omega),show(at_+q)/4=at_/4 by omega,show(at_+q)%4=at_%4+q by omega,Nat.succ_mul,List.take_add,List.drop_drop,←Nat.add_mul]
theorem i1H {m:List Lf} {f:Nat→B} (h:k0W m f): ∀(k at_ n:Nat),n≤k→b1D f k at_ n=k0L m at_ n
 |0,at_,n,hn=>by
  obtain rfl:n=0:=by omega
  rfl
 |k+1,at_,n,hn=>by
  unfold b1D
  by_cases h0:n=0
  ·rw[if_pos h0,h0];rfl
  ·rw[if_neg h0,i1H h k _ _ (by omega),h.eq,←o1R h.ok at_ _ (by omega),←k1I,show min n (4-at_%4)+(n-min n (4-at_%4))=n by omega]
theorem J.read (h:J s G P) (id at_ n:Int): ∃s',o0G id at_ n s=(.ok (m0C P id at_ n),s')∧J s' G P∧b0K s≤b0K s':=by
 cases hf:c0O P.l id with
 |none=>
  obtain⟨s',e1,t1⟩:=h.ci.failed0 (s1W id at_ n) (er:=5) (t:= {s with depth:=1}) (by unfold o0B;exact a0I (show find id {s with depth:=1} =(.err 5,{s with depth:=1}) by unfold find;rw[show a0E id ({s with depth:=1} :St).vols=none from h.missing hf])) (by decide)
  refine⟨s',?_,h.still t1,t1.room⟩
  unfold o0G m0C
  rw[a0A e1,hf];rfl
 |some i=>
  obtain⟨hi,x,he,hx,hr⟩:=h.found hf
  have hsz:=h.size hx
  have hw:=b1I hr.size hsz.2.2 at_ n {s with depth:=1}
  by_cases hb:m0B (P.l.getD i v0) at_ n=true
  ·rw[if_pos hb]at hw
   obtain⟨s',e1,t1⟩:=h.ci.failed0 (s1W id at_ n) (er:=6) (t:= {s with depth:=1}) (by
    unfold o0B
    rw[a0A (show find id {s with depth:=1} =(.ok x,{s with depth:=1}) by unfold find;rw[show a0E id ({s with depth:=1} :St).vols=some x from hx])]
    exact a0I hw) (by decide)
   refine⟨s',?_,h.still t1,t1.room⟩
   unfold o0G m0C
   rw[a0A e1,hf]
   simp only
   rw[if_pos hb];rfl
  ·have hbad: ¬(at_<0∨n<0∨(P.l.getD i v0).size<at_∨(P.l.getD i v0).size-at_<n):=fun hh=>hb (decide_eq_true hh)
   have hsv:=hr.size
   have e1:=h.ci.read (at_:=at_.toNat) (n:=n.toNat) hx (by omega)
   rw[Int.toNat_of_nonneg (by omega),Int.toNat_of_nonneg (by omega)]at e1
   refine⟨s,?_,h,Nat.le_refl _⟩
   rw[e1,i1H hr.map _ _ _ (Nat.le_refl _)]
   unfold m0C
   rw[hf]
   simp only
   rw[if_neg hb]
theorem J.epoch_ (h:J s G P) (n:Int):J {s with epoch:=n} G {P with epoch:=n} :=
 ⟨⟨h.ci.inv.other rfl rfl rfl rfl rfl ⟨h.ci.inv.u.m.refs,h.ci.inv.u.m.young,h.ci.inv.u.m.index,h.ci.inv.u.m.vols⟩ h.ci.inv.u.keep,h.ci.idx,h.ci.kid,h.ci.ids,h.ci.dep,h.ci.log,h.ci.gone,h.ci.few⟩,h.next,h.pos,h.bits,rfl,h.len,h.ord,h.ids,h.vol,h.back⟩
theorem J.sum (h:J s G P) {id:Int} {x:Ent} (hx:a0E id s.vols=some x):v0O id s=(.ok (d0N G x.root,0),s):=by
 have e0:d1M id {s with depth:=1} =(.ok (d0N G x.root),{s with depth:=1}):=by
  unfold d1M
  rw[a0A (show find id {s with depth:=1} =(.ok x,{s with depth:=1}) by unfold find;rw[show a0E id ({s with depth:=1} :St).vols=some x from hx])]
  unfold h1P
  rw[a0A (h.ci.deep.loadK (h.ci.kid _ (h.ci.mem hx)))];rfl
 unfold v0O
 rw[a0A (q0I h.ci e0 (Rel.refl h.ci.deep.u)),s1H h.ci.dep h.ci.log h.ci.gone]
 rfl
end
end
section
def z0T (s:St):St:= {s with g:=f0O s.g,young:= []}
theorem k1J {fr:Nat} {g:List Nat} {a:Int} :isB fr (f0O g) a 1=isB fr g a 1:=by
 unfold isB f0O
 rw[List.length_map,List.getElem?_map]
 cases h:g[(a-fr).toNat]? with
 |none=>rfl
 |some x=>
  rw[Option.map_some]
  by_cases h2:x=2
  ·subst h2;simp
  ·rw[if_neg h2]
theorem x0K: ∀g:List Nat,(f0O g).count 1=g.count 1∧g.count 0≤(f0O g).count 0
 | []=>⟨rfl,Nat.le_refl _⟩
 |x::g=>by
  obtain⟨h1,h2⟩:=x0K g
  have e:f0O (x::g)=(if x=2 then 0 else x)::f0O g:=rfl
  rw[e,List.count_cons,List.count_cons,List.count_cons,List.count_cons]
  by_cases hx:x=2
  ·subst hx;simp;omega
  ·rw[if_neg hx];omega
section
variable {s s':St} {G G':Gh} {P P':List Int}
theorem CI.settle (h:CI s G):CI (z0T s) G:=by
 have i:=h.inv
 have hl:(f0O s.g).length=s.g.length:=by unfold f0O;simp
 refine⟨⟨⟨⟨i.u.m.refs,List.nodup_nil,i.u.m.index,i.u.m.vols⟩,i.u.keep,fun a ha=> ?_,i.u.run,?_,?_⟩,i.nod,i.lo,?_,i.refs,i.live,i.zero,fun a=> ?_,i.disk,i.typ,?_⟩,h.idx,h.kid,h.ids,h.dep,h.log,h.gone,h.few⟩
 ·exact k1J.trans (i.u.held a ha)
 ·show s.d.l.length=s.fr+(f0O s.g).length;rw[hl];exact i.u.size
 ·show s.gone.Nodup∧ ∀a∈s.gone,isB s.fr (f0O s.g) a 2=true
  rw[h.gone];exact⟨List.nodup_nil,fun a ha=>(by cases ha)⟩
 ·show s.fr+(f0O s.g).length≤65535;rw[hl];exact i.hi
 ·show isB s.fr (f0O s.g) a 1=true↔_;rw[k1J];exact i.held a
 ·exact i.cnt.trans (x0K s.g).1.symm
theorem w1W (s:St):b0K s≤b0K (z0T s):=(x0K s.g).2
theorem J.settle {P:Rp} (h:J s G P):J (z0T s) G P:=⟨h.ci.settle,h.next,h.pos,h.bits,h.epoch,h.len,h.ord,h.ids,h.vol,h.back⟩
theorem Inv.leafSum (h:Inv s G P) (h':Inv s' G' P') {a a':Int} (ha:a0Y G 0 a) (ha':a0Y G' 0 a') (he:d0B G a=d0B G' a'):d0N G a=d0N G' a':=by
 rcases ha with rfl| ⟨d,t,ho⟩<;>rcases ha' with rfl| ⟨d',t',ho'⟩
 ·unfold d0N;rw[h.zero,h'.zero]
 ·exfalso
  unfold d0B at he
  rw[h.zero,ho']at he
  have:=(h'.typ _ _ ho').2.1
  simp only at he
  rw[←he,d0L]at this;cases this
 ·exfalso
  unfold d0B at he
  rw[h'.zero,ho]at he
  have:=(h.typ _ _ ho).2.1
  simp only at he
  rw[he,d0L]at this;cases this
 ·unfold d0B at he
  rw[ho,ho']at he
  simp only at he
  unfold d0N;rw[ho,ho',he]
theorem v0S {l i j:Nat} {a:Int} (hi:i<8) (hj:j<8^(l+1)):c0K G (l+1) a (i*8^(l+1)+j)=c0K G l ((b0E G a).getD i 0) j:=by
 have hp0:0<8^(l+1):=Nat.pow_pos (by decide)
 have e3:(b0O (l+1) (i*8^(l+1)+j)).1=i:=by
  unfold b0O;simp only
  rw[Nat.mul_comm i,Nat.mul_add_div hp0,Nat.div_eq_of_lt hj,Nat.add_zero,Nat.mod_eq_of_lt hi]
 have e4:(b0O (l+1) (i*8^(l+1)+j)).2=j:=by
  unfold b0O;simp only
  rw[Nat.mul_comm i,Nat.mul_add_mod,Nat.mod_eq_of_lt hj]
 conv=>lhs;unfold c0K
 rw[e3,e4]
theorem v2V {ks:List Int} (h8:ks.length=8) (hne:ks≠e0F): ∃i,i<8∧ks.getD i 0≠0:=by
 refine Classical.byContradiction fun hno=>hne ?_
 refine List.ext_getElem (by rw[h8];rfl) fun i h1 h2=> ?_
 have hi:i<8:=by omega
 have:ks.getD i 0=0:=Classical.byContradiction fun h=>hno ⟨i,hi,h⟩
 rw[List.getD_eq_getElem?_getD,List.getElem?_eq_getElem h1]at this
 simp only[Option.getD_some]at this
 have h3:=c2L i
 rw[List.getD_eq_getElem?_getD,List.getElem?_eq_getElem h2]at h3
 simp only[Option.getD_some]at h3
 rw[this,h3]
theorem Inv.someLeaf (h:Inv s G P): ∀(l:Nat) {a:Int},a0Y G (l+1) a→a≠0→ ∃j,j<8^(l+1)∧a0R (d0B G (c0K G l a j))=false
 |l,a,ha,hne=>by
  obtain⟨ks,sm,ho⟩:=ha.resolve_left hne
  obtain⟨t1,t2,t3,t4,t5⟩:=h.typ a _ ho
  have hk:b0E G a=ks:=by unfold b0E;rw[ho]
  obtain⟨i,hi,hki⟩:=v2V t2 t3
  have hkid:=t4 _ (g0J (i:=i) (by rw[t2];exact hi))
  cases l with
  |zero=>
   obtain⟨d,t,hd⟩:=hkid.resolve_left hki
   refine⟨i,by simpa using hi,?_⟩
   have e:c0K G 0 a i=ks.getD i 0:=by
    unfold c0K b0O;simp only;rw[hk,show i/8^0%8=i by omega]
   rw[e];unfold d0B;rw[hd];exact(h.typ _ _ hd).2.1
  |succ l=>
   obtain⟨j,hj,hz⟩:=h.someLeaf l hkid hki
   have hp:8^(l+1+1)=8*8^(l+1):=by rw[Nat.pow_succ];omega
   have:i*8^(l+1)≤7*8^(l+1):=Nat.mul_le_mul_right _ (by omega)
   exact⟨i*8^(l+1)+j,by rw[hp];omega,by rw[v0S hi hj,hk];exact hz⟩
theorem Inv.noLeaf (h:Inv s G P) (l:Nat) {a:Int} (ha:a0Y G (l+1) a) (hz: ∀j,j<8^(l+1)→a0R (d0B G (c0K G l a j))=true):a=0:=by
 refine Classical.byContradiction fun hne=> ?_
 obtain⟨j,hj,e⟩:=h.someLeaf l ha hne
 rw[hz j hj]at e;cases e
theorem q2J (hz:a0E 0 G=none):a0R (d0B G 0)=true:=by unfold d0B;rw[hz];exact d0L _
theorem Inv.sumSame (h:Inv s G P) (h':Inv s' G' P'): ∀(l:Nat) {a a':Int},a0Y G (l+1) a→a0Y G' (l+1) a'→(∀j,j<8^(l+1)→d0B G (c0K G l a j)=d0B G' (c0K G' l a' j))→d0N G a=d0N G' a'
 |l,a,a',ha,ha',he=>by
  by_cases h0:a=0
  ·have h0':a'=0:=h'.noLeaf l ha' fun j hj=>by rw[←he j hj,h0,t0R h.zero];exact q2J h.zero
   rw[h0,h0'];unfold d0N;rw[h.zero,h'.zero]
  ·have h0':a'≠0:=fun e=>h0 (h.noLeaf l ha fun j hj=>by rw[he j hj,e,t0R h'.zero];exact q2J h'.zero)
   obtain⟨ks,sm,ho⟩:=ha.resolve_left h0
   obtain⟨ks',sm',ho'⟩:=ha'.resolve_left h0'
   obtain⟨t1,t2,t3,t4,t5⟩:=h.typ a _ ho
   obtain⟨u1,u2,u3,u4,u5⟩:=h'.typ a' _ ho'
   have hk:b0E G a=ks:=by unfold b0E;rw[ho]
   have hk':b0E G' a'=ks':=by unfold b0E;rw[ho']
   have hs:ks.map (d0N G)=ks'.map (d0N G'):=by
    refine List.ext_getElem (by simp[t2,u2]) fun i h1 h2=> ?_
    rw[List.getElem_map,List.getElem_map]
    have hi:i<8:=by simpa [t2] using h1
    have e1:ks.getD i 0=ks[i]:=by rw[List.getD_eq_getElem?_getD,List.getElem?_eq_getElem];rfl
    have e2:ks'.getD i 0=ks'[i]:=by rw[List.getD_eq_getElem?_getD,List.getElem?_eq_getElem];rfl
    have k1:=t4 _ (List.getElem_mem (h:=by simpa using h1))
    have k2:=u4 _ (List.getElem_mem (h:=by simpa using h2))
    cases l with
    |zero=>
     refine h.leafSum h' k1 k2 ?_
     have:=he i (by simpa using hi)
     unfold c0K b0O at this
     simp only at this
     rw[show i/8^0%8=i by omega,hk,hk',e1,e2]at this
     exact this
    |succ l=>
     refine h.sumSame h' l k1 k2 fun j hj=> ?_
     have hp:8^(l+1+1)=8*8^(l+1):=by rw[Nat.pow_succ];omega
     have:i*8^(l+1)≤7*8^(l+1):=Nat.mul_le_mul_right _ (by omega)
     have:=he (i*8^(l+1)+j) (by rw[hp];omega)
     rw[v0S hi hj,v0S hi hj,hk,hk',e1,e2]at this
     exact this
   unfold d0N
   rw[ho,ho']
   simp only
   rw[t5,u5,hs]
theorem Inv.sumMap (h:Inv s G P) (h':Inv s' G' P') {a a':Int} (ha:a0Y G 3 a) (ha':a0Y G' 3 a') (he:a0W G a=a0W G' a'):d0N G a=d0N G' a':=h.sumSame h' 2 ha ha' fun j hj=>by
 have:=congrFun he j
 unfold a0W at this
 rw[if_pos hj,if_pos hj]at this
 exact this
end
end
end Go.Sb

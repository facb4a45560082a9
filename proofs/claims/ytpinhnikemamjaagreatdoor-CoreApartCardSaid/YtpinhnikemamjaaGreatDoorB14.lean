/- Part of the proof; no statement of its own. -/
import Derived.Test.YtpinhnikemamjaaGreatDoorB13
import Derived.Test.YtpinhnikemamjaaGreatDoorB08
set_option linter.all false
set_option maxRecDepth 4000
set_option maxHeartbeats 4000000
namespace Go.Sb
theorem p0C {fr:Nat} {g:List Nat} {a:Int} {w:Nat} :isB fr g a w=true↔(fr:Int)≤a∧(a-fr).toNat<g.length∧g[(a-fr).toNat]? =some w:=by
 simp only[isB,Bool.and_eq_true,decide_eq_true_eq]
 constructor
 ·rintro⟨h1,h2,h3⟩;exact⟨h1,by omega,h3⟩
 ·rintro⟨h1,h2,h3⟩;exact⟨h1,by omega,h3⟩
theorem y0N {fr:Nat} {g:List Nat} {a:Int} {v w:Nat} (h:isB fr g a v=true) (k:isB fr g a w=true):v=w:=by
 have h1:=(p0C.1 h).2.2;have h2:=(p0C.1 k).2.2
 rw[h1]at h2;exact Option.some.inj h2
theorem c1C {fr:Nat} {g:List Nat} {a:Int} {v w:Nat} (h:isB fr g a v=true):mvL fr g a v w=g.set (a-fr).toNat w:=by simp[mvL,h]
theorem m0Y {fr:Nat} {g:List Nat} {a:Int} {v w:Nat} :(mvL fr g a v w).length=g.length:=by unfold mvL;split<;>simp
theorem m0C {fr:Nat} {g:List Nat} {a b:Int} {v w x:Nat} (h:isB fr g a v=true):isB fr (mvL fr g a v w) b x=if b=a then decide (w=x)else isB fr g b x:=by
 obtain⟨h1,h2,h3⟩:=p0C.1 h
 rw[c1C h]
 by_cases e:b=a
 ·subst e
  simp only[if_pos,isB,List.length_set]
  rw[List.getElem?_set_self h2]
  have:((b-fr:Int)<g.length):=by omega
  simp[h1,this]
 ·simp only[if_neg e,isB,List.length_set]
  by_cases hb:(fr:Int)≤b
  ·rw[List.getElem?_set_ne (by omega)]
  ·have: ¬(b≥(fr:Int)):=hb
   simp[this]
theorem q1L {fr:Nat} {g:List Nat} {a:Int} {v w:Nat} (h:isB fr g a v=true):mvL fr (mvL fr g a v w) a w v=g:=by
 have h':isB fr (mvL fr g a v w) a w=true:=by rw[m0C h];simp
 obtain⟨h1,h2,h3⟩:=p0C.1 h
 rw[c1C h',c1C h,List.set_set]
 apply List.ext_getElem?
 intro i
 by_cases e:(a-fr).toNat=i
 ·subst e;rw[List.getElem?_set_self h2,h3]
 ·rw[List.getElem?_set_ne e]
theorem r0O {fr:Nat} {g:List Nat} {a:Int} {v w x:Nat} (h:isB fr g a v=true):(mvL fr g a v w).count x+(if v=x then 1 else 0)=g.count x+(if w=x then 1 else 0):=by
 obtain⟨h1,h2,h3⟩:=p0C.1 h
 rw[c1C h]
 generalize (a-fr).toNat=i at h2 h3
 clear h h1
 induction g generalizing i with
 |nil=>simp at h2
 |cons y g ih=>
  cases i with
  |zero=>
   simp only[List.getElem?_cons_zero,Option.some.injEq]at h3
   subst h3
   simp only[List.set_cons_zero,List.count_cons,beq_iff_eq]
   omega
  |succ i=>
   have:=ih i (by simpa using h2) (by simpa using h3)
   simp only[List.set_cons_succ,List.count_cons]
   omega
theorem w1X {fr:Nat} {g:List Nat} (h:0<g.count 0):isB fr g (b0Z fr g) 0=true∧g0U g=mvL fr g (b0Z fr g) 0 1:=by
 have hm:(0:Nat)∈g:=List.count_pos_iff.1 h
 cases hf:g.findIdx? (· == 0)with
 |none=>
  rw[List.findIdx?_eq_none_iff]at hf
  exact absurd (hf 0 hm) (by simp)
 |some i=>
  have hi:=List.findIdx?_eq_some_iff_getElem.1 hf
  obtain⟨h1,h2,_⟩:=hi
  have hB:isB fr g (b0Z fr g) 0=true:=by
   simp only[b0Z,hf]
   refine p0C.2 ⟨by omega,by omega,?_⟩
   rw[show(((fr+i:Nat):Int)-fr).toNat=i by omega,List.getElem?_eq_getElem h1]
   simpa using h2
  refine⟨hB,?_⟩
  rw[c1C hB]
  simp only[g0U,b0Z,hf]
  rw[show(((fr+i:Nat):Int)-fr).toNat=i by omega]
theorem r2I {d:Nat} {log:List c0Y} {st:c0Y} (h:0<d):bk d log st=log++ [st]:=by simp[bk,h]
theorem k0J {k:Nat} {s t:St} (st:c0Y) (hd:0<s.depth) (ht:UOK t) (hlog:t.log=bk s.depth s.log st) (hfr:t.fr=s.fr) (hdp:t.depth=s.depth) (hb:t.bits=s.bits) (he:t.epoch=s.epoch)
 (hq:Eqv (n0N st t) s) (hg: ∀a,j0L t a→j0L s a) (hdisk:t.d=s.d) (hroom:b0U s≤b0U t+k) (hgl:t.g.length=s.g.length) (hgn:t.gone.length≤s.gone.length+1):Rel 1 k s t:=
 ⟨ht,hfr,hdp,hb,he,⟨[st],by rw[hlog,r2I hd],by simp,hq⟩,hg,fun a=> .inr (by rw[hdisk]),hroom,hgl,hgn⟩
theorem t0C {s:St} (st:c0Y) (h:s.log.length<1000000000):back st s=(.ok (),{s with log:=bk s.depth s.log st}):=by
 simp[back,show ¬1000000000≤s.log.length by omega]
theorem y0O {s:St} (st:c0Y) (h: ¬s.log.length<1000000000):back st s=(.big,s):=by
 simp[back,show 1000000000≤s.log.length by omega]
theorem m0I {α:Type} {k:Nat} {s:St} (st:c0Y) (g:St→Out α×St) (hs:UOK s) (h:Rel 1 k s (g {s with log:=bk s.depth s.log st}).2):Rel 1 k s (a0B (fun s=>back st s) (fun _ s=>g s) s).2:=by
 by_cases hl:s.log.length<1000000000
 ·rw[a0A (m:=fun s=>back st s) (t0C st hl)];exact h
 ·have:a0B (fun s=>back st s) (fun _ s=>g s) s=(.big,s):=by simp[a0B,y0O st hl]
  rw[this];exact(Rel.refl hs).mono (by omega) (by omega)
theorem x0Y {s:St} (hd:0<s.depth) (hs:UOK s) (k v:Int) (hk:isB s.fr s.g k 1=true):Rel 1 0 s (g0S k v s).2:=by
 refine m0I (.refs k (a0H k s.refs)) (fun s=>(.ok (),{s with refs:=c0F k v s.refs})) hs ?_
 refine k0J (.refs k (a0H k s.refs)) hd ⟨⟨n0J k v hs.m.refs,hs.m.young,hs.m.index,hs.m.vols⟩,hs.keep,fun a ha=> ?_,hs.run,hs.size,hs.late⟩ rfl rfl rfl rfl rfl
  ⟨rfl,rfl,rfl,rfl,rfl,rfl,rfl,rfl,t0T k v hs.m.refs,fun _=>rfl,fun _=>rfl,fun _=>rfl⟩ (fun _ h=>h) rfl (Nat.le_refl _) rfl (Nat.le_succ _)
 rw[i0T]at ha
 by_cases e:k=a
 ·subst e;exact hk
 ·rw[if_neg e]at ha;exact hs.held a ha
theorem q1M {s:St} (hd:0<s.depth) (hs:UOK s) (k:Int):Rel 1 0 s (k0F k s).2:=by
 refine m0I (.refs k (a0H k s.refs)) (fun s=>(.ok (),{s with refs:=b0I k s.refs})) hs ?_
 refine k0J (.refs k (a0H k s.refs)) hd ⟨⟨j0K k hs.m.refs,hs.m.young,hs.m.index,hs.m.vols⟩,hs.keep,fun a ha=> ?_,hs.run,hs.size,hs.late⟩ rfl rfl rfl rfl rfl
  ⟨rfl,rfl,rfl,rfl,rfl,rfl,rfl,rfl,t0U k hs.m.refs,fun _=>rfl,fun _=>rfl,fun _=>rfl⟩ (fun _ h=>h) rfl (Nat.le_refl _) rfl (Nat.le_succ _)
 rw[c0V k a hs.m.refs]at ha
 by_cases e:k=a
 ·simp[e]at ha
 ·rw[if_neg e]at ha;exact hs.held a ha
theorem u1T (k v:Int):UM 1 0 (l0H k v):=fun s hd hs _=>by
 refine m0I (.young k (a0H k s.young)) (fun s=>(.ok (),{s with young:=c0F k v s.young})) hs ?_
 exact k0J (.young k (a0H k s.young)) hd ⟨⟨hs.m.refs,n0J k v hs.m.young,hs.m.index,hs.m.vols⟩,hs.keep,hs.held,hs.run,hs.size,hs.late⟩ rfl rfl rfl rfl rfl
  ⟨rfl,rfl,rfl,rfl,rfl,rfl,rfl,rfl,fun _=>rfl,t0T k v hs.m.young,fun _=>rfl,fun _=>rfl⟩ (fun _ h=>h) rfl (Nat.le_refl _) rfl (Nat.le_succ _)
theorem q1N (k:Int):UM 1 0 (f0H k):=fun s hd hs _=>by
 refine m0I (.young k (a0H k s.young)) (fun s=>(.ok (),{s with young:=b0I k s.young})) hs ?_
 exact k0J (.young k (a0H k s.young)) hd ⟨⟨hs.m.refs,j0K k hs.m.young,hs.m.index,hs.m.vols⟩,hs.keep,hs.held,hs.run,hs.size,hs.late⟩ rfl rfl rfl rfl rfl
  ⟨rfl,rfl,rfl,rfl,rfl,rfl,rfl,rfl,fun _=>rfl,t0U k hs.m.young,fun _=>rfl,fun _=>rfl⟩ (fun _ h=>h) rfl (Nat.le_refl _) rfl (Nat.le_succ _)
theorem e1P (k:B) (v:Int):UM 1 0 (f0C k v):=fun s hd hs _=>by
 refine m0I (.index k (a0H k s.index)) (fun s=>(.ok (),{s with index:=c0F k v s.index})) hs ?_
 exact k0J (.index k (a0H k s.index)) hd ⟨⟨hs.m.refs,hs.m.young,n0J k v hs.m.index,hs.m.vols⟩,hs.keep,hs.held,hs.run,hs.size,hs.late⟩ rfl rfl rfl rfl rfl
  ⟨rfl,rfl,rfl,rfl,rfl,rfl,rfl,rfl,fun _=>rfl,fun _=>rfl,t0T k v hs.m.index,fun _=>rfl⟩ (fun _ h=>h) rfl (Nat.le_refl _) rfl (Nat.le_succ _)
theorem c1D (k:B):UM 1 0 (g0W k):=fun s hd hs _=>by
 refine m0I (.index k (a0H k s.index)) (fun s=>(.ok (),{s with index:=b0I k s.index})) hs ?_
 exact k0J (.index k (a0H k s.index)) hd ⟨⟨hs.m.refs,hs.m.young,j0K k hs.m.index,hs.m.vols⟩,hs.keep,hs.held,hs.run,hs.size,hs.late⟩ rfl rfl rfl rfl rfl
  ⟨rfl,rfl,rfl,rfl,rfl,rfl,rfl,rfl,fun _=>rfl,fun _=>rfl,t0U k hs.m.index,fun _=>rfl⟩ (fun _ h=>h) rfl (Nat.le_refl _) rfl (Nat.le_succ _)
theorem a2L (k:Int) (v:Ent):UM 1 0 (r0K k v):=fun s hd hs _=>by
 refine m0I (.vols k (a0H k s.vols)) (fun s=>(.ok (),{s with vols:=c0F k v s.vols})) hs ?_
 exact k0J (.vols k (a0H k s.vols)) hd ⟨⟨hs.m.refs,hs.m.young,hs.m.index,n0J k v hs.m.vols⟩,hs.keep,hs.held,hs.run,hs.size,hs.late⟩ rfl rfl rfl rfl rfl
  ⟨rfl,rfl,rfl,rfl,rfl,rfl,rfl,rfl,fun _=>rfl,fun _=>rfl,fun _=>rfl,t0T k v hs.m.vols⟩ (fun _ h=>h) rfl (Nat.le_refl _) rfl (Nat.le_succ _)
theorem e1Q (k:Int):UM 1 0 (n0G k):=fun s hd hs _=>by
 refine m0I (.vols k (a0H k s.vols)) (fun s=>(.ok (),{s with vols:=b0I k s.vols})) hs ?_
 exact k0J (.vols k (a0H k s.vols)) hd ⟨⟨hs.m.refs,hs.m.young,hs.m.index,j0K k hs.m.vols⟩,hs.keep,hs.held,hs.run,hs.size,hs.late⟩ rfl rfl rfl rfl rfl
  ⟨rfl,rfl,rfl,rfl,rfl,rfl,rfl,rfl,fun _=>rfl,fun _=>rfl,fun _=>rfl,t0U k hs.m.vols⟩ (fun _ h=>h) rfl (Nat.le_refl _) rfl (Nat.le_succ _)
theorem a2M {n:Int} (hn:0≤n):UM 1 0 (v0D n):=fun s hd hs _=>by
 refine m0I (.keep s.keep) (fun s=>(.ok (),{s with keep:=n})) hs ?_
 exact k0J (.keep s.keep) hd ⟨⟨hs.m.refs,hs.m.young,hs.m.index,hs.m.vols⟩,hn,hs.held,hs.run,hs.size,hs.late⟩ rfl rfl rfl rfl rfl
  ⟨rfl,rfl,rfl,rfl,rfl,rfl,rfl,rfl,fun _=>rfl,fun _=>rfl,fun _=>rfl,fun _=>rfl⟩ (fun _ h=>h) rfl (Nat.le_refl _) rfl (Nat.le_succ _)
theorem a2N (n:Int):UM 1 0 (o0X n):=fun s hd hs _=>by
 refine m0I (.next s.next) (fun s=>(.ok (),{s with next:=n})) hs ?_
 exact k0J (.next s.next) hd ⟨⟨hs.m.refs,hs.m.young,hs.m.index,hs.m.vols⟩,hs.keep,hs.held,hs.run,hs.size,hs.late⟩ rfl rfl rfl rfl rfl
  ⟨rfl,rfl,rfl,rfl,rfl,rfl,rfl,rfl,fun _=>rfl,fun _=>rfl,fun _=>rfl,fun _=>rfl⟩ (fun _ h=>h) rfl (Nat.le_refl _) rfl (Nat.le_succ _)
theorem u1U {s:St} (hd:0<s.depth) (hs:UOK s) (l:List Int) (hl:l.length≤s.gone.length+1) (hg:l.Nodup∧ ∀a∈l,isB s.fr s.g a 2=true):Rel 1 0 s (g0Z l s).2:=by
 unfold g0Z
 split
 ·exact(Rel.refl hs).mono (by omega) (by omega)
 ·refine m0I (.gone s.gone) (fun s=>(.ok (),{s with gone:=l})) hs ?_
  exact k0J (.gone s.gone) hd ⟨⟨hs.m.refs,hs.m.young,hs.m.index,hs.m.vols⟩,hs.keep,hs.held,hs.run,hs.size,hg⟩ rfl rfl rfl rfl rfl
   ⟨rfl,rfl,rfl,rfl,rfl,rfl,rfl,rfl,fun _=>rfl,fun _=>rfl,fun _=>rfl,fun _=>rfl⟩ (fun _ h=>h) rfl (Nat.le_refl _) rfl hl
theorem j2Y {s:St} (hd:0<s.depth) (hs:UOK s) (a:Int) (ha:isB s.fr s.g a 1=true) (hr:a0H a s.refs=none) (hb:(back (.back a) {s with g:=mvL s.fr s.g a 1 2}).1≠ .big):Rel 1 0 s (back (.back a) {s with g:=mvL s.fr s.g a 1 2}).2:=by
 by_cases hl:s.log.length<1000000000
 ·rw[t0C (s:= {s with g:=mvL s.fr s.g a 1 2}) (.back a) hl]
  refine k0J (.back a) hd ⟨⟨hs.m.refs,hs.m.young,hs.m.index,hs.m.vols⟩,hs.keep,fun b hb=> ?_,hs.run,by show _=_+(mvL _ _ _ _ _).length;rw[m0Y];exact hs.size,hs.late.1,fun b hb=> ?_⟩ rfl rfl rfl rfl rfl
   ⟨rfl,q1L ha,rfl,rfl,rfl,rfl,rfl,rfl,fun _=>rfl,fun _=>rfl,fun _=>rfl,fun _=>rfl⟩ (fun b hb=> ?_) rfl ?_ m0Y (Nat.le_succ _)
  ·show isB s.fr (mvL s.fr s.g a 1 2) b 1=true
   rw[m0C ha]
   have hb':a0H b s.refs≠none:=hb
   by_cases e:b=a
   ·subst e;exact(hb' hr).elim
   ·rw[if_neg e];exact hs.held b hb'
  ·show isB s.fr (mvL s.fr s.g a 1 2) b 2=true
   rw[m0C ha]
   by_cases e:b=a
   ·simp[e]
   ·rw[if_neg e];exact hs.late.2 b hb
  ·have hb':isB s.fr (mvL s.fr s.g a 1 2) b 0=true:=hb
   rw[m0C ha]at hb'
   by_cases e:b=a
   ·simp[e]at hb'
   ·rw[if_neg e]at hb';exact hb'
  ·have:=r0O (w:=2) (x:=0) ha
   simp at this
   show s.g.count 0≤(mvL s.fr s.g a 1 2).count 0+0
   omega
 ·exact(hb (by rw[y0O (s:= {s with g:=mvL s.fr s.g a 1 2}) (.back a) hl])).elim
theorem j2Z {s:St} (hd:0<s.depth) (hs:UOK s) (hf:0<b0U s) (hb:(back (.give (b0Z s.fr s.g)) {s with g:=g0U s.g}).1≠ .big):
 Rel 1 1 s (back (.give (b0Z s.fr s.g)) {s with g:=g0U s.g}).2∧isB s.fr (g0U s.g) (b0Z s.fr s.g) 1=true∧j0L s (b0Z s.fr s.g):=by
 obtain⟨ha,e⟩:=w1X (fr:=s.fr) hf
 rw[e]at hb ⊢
 generalize b0Z s.fr s.g=a at*
 by_cases hl:s.log.length<1000000000
 ·rw[t0C (s:= {s with g:=mvL s.fr s.g a 0 1}) (.give a) hl]
  refine⟨k0J (.give a) hd ⟨⟨hs.m.refs,hs.m.young,hs.m.index,hs.m.vols⟩,hs.keep,fun b hb=> ?_,hs.run,by show _=_+(mvL _ _ _ _ _).length;rw[m0Y];exact hs.size,hs.late.1,fun b hb=> ?_⟩ rfl rfl rfl rfl rfl
   ⟨rfl,q1L ha,rfl,rfl,rfl,rfl,rfl,rfl,fun _=>rfl,fun _=>rfl,fun _=>rfl,fun _=>rfl⟩ (fun b hb=> ?_) rfl ?_ m0Y (Nat.le_succ _),by rw[m0C ha];simp,ha⟩
  ·show isB s.fr (mvL s.fr s.g a 0 1) b 1=true
   rw[m0C ha]
   have hb':a0H b s.refs≠none:=hb
   by_cases e:b=a
   ·simp[e]
   ·rw[if_neg e];exact hs.held b hb'
  ·show isB s.fr (mvL s.fr s.g a 0 1) b 2=true
   have hb2:isB s.fr s.g b 2=true:=hs.late.2 b hb
   rw[m0C ha]
   by_cases e:b=a
   ·subst e;exact absurd (y0N hb2 ha) (by decide)
   ·rw[if_neg e];exact hb2
  ·have hb':isB s.fr (mvL s.fr s.g a 0 1) b 0=true:=hb
   rw[m0C ha]at hb'
   by_cases e:b=a
   ·simp[e]at hb'
   ·rw[if_neg e]at hb';exact hb'
  ·have:=r0O (w:=1) (x:=0) ha
   simp at this
   show s.g.count 0≤(mvL s.fr s.g a 0 1).count 0+1
   omega
 ·exact(hb (by rw[y0O (s:= {s with g:=mvL s.fr s.g a 0 1}) (.give a) hl])).elim
theorem Rel.write {c k:Nat} {s t:St} (h:Rel c k s t) {a:Int} (ha:j0L s a) {d:Dk} (h1:d.armed=t.d.armed∧d.dead=t.d.dead) (h2:d.l.length=t.d.l.length) (h3: ∀b:Nat,(b:Int)≠a→m0H d b=m0H t.d b):Rel c k s {t with d:=d} :=by
 refine⟨⟨⟨h.ok.m.refs,h.ok.m.young,h.ok.m.index,h.ok.m.vols⟩,h.ok.keep,h.ok.held,⟨h1.1.trans h.ok.run.1,h1.2.trans h.ok.run.2⟩,h2.trans h.ok.size,h.ok.late⟩,h.fr,h.depth,h.bits,h.epoch,?_,h.free,fun b=> ?_,h.room,h.glen,h.gone⟩
 ·obtain⟨l,e,n,q⟩:=h.log
  refine⟨l,e,n,?_⟩
  have: ∀l,Eqv (e0R {t with d:=d} l) (e0R t l):=c1B ⟨h.ok.m.refs,h.ok.m.young,h.ok.m.index,h.ok.m.vols⟩ h.ok.m ⟨rfl,rfl,rfl,rfl,rfl,rfl,rfl,rfl,fun _=>rfl,fun _=>rfl,fun _=>rfl,fun _=>rfl⟩
  exact(this l).trans q
 ·by_cases e:(b:Int)=a
  ·exact .inl (e▸ha)
  ·rcases h.disk b with h4|h4
   ·exact .inl h4
   ·exact .inr ((h3 b e).trans h4)
theorem e2P {d:Dk} (h:d.armed=false∧d.dead=false) {a:Int} {b:B} (h1:0≤a∧a<d.l.length) (h2:b.length≤64):
 e0Z d a b=(.ok (),{d with l:=d.l.set a.toNat ((d.l.getD a.toNat ([],[])).1,b++a0T (64-b.length))}):=by
 unfold e0Z k0A
 rw[h.2,h.1]
 simp only[Bool.false_eq_true,if_false,if_true]
 rw[if_neg (by omega),if_neg (by omega),h.1,h.2]
theorem q1O {d:Dk} (h:d.armed=false∧d.dead=false) {a:Int} {b:B} (h1:0≤a):(e0Z d a b).2.armed=d.armed∧(e0Z d a b).2.dead=d.dead∧(e0Z d a b).2.l.length=d.l.length∧
 ∀n:Nat,(n:Int)≠a→m0H (e0Z d a b).2 n=m0H d n:=by
 unfold e0Z k0A
 rw[h.2,h.1]
 simp only[Bool.false_eq_true,if_false,if_true]
 split
 ·exact⟨h.1,h.2,rfl,fun _ _=>rfl⟩
 ·split
  ·exact⟨h.1,h.2,rfl,fun _ _=>rfl⟩
  ·refine⟨h.1,h.2,by simp,fun n hn=> ?_⟩
   unfold m0H
   simp only[List.getD_eq_getElem?_getD]
   rw[List.getElem?_set_ne (by omega)]
theorem y0P (b:B):UM 3 1 (e0S b):=fun s hd hs hb=>by
 by_cases hf:(b0U s:Int)≤s.keep
 ·have e:e0S b s=(.err 8,s):=by simp[e0S,hf]
  rw[e];exact(Rel.refl hs).mono (by omega) (by omega)
 ·have hk:=hs.keep
  have e:e0S b s=a0B (fun s'=>back (.give (b0Z s.fr s.g)) {s' with g:=g0U s'.g}) (fun _=>a0B (g0S (b0Z s.fr s.g) 1) fun _=>a0B (l0H (b0Z s.fr s.g) 1) fun _=>a0B (s0B fun d=>e0Z d (b0Z s.fr s.g) b) fun _=>ret (b0Z s.fr s.g)) s:=by
   simp only[e0S,if_neg hf]
  rw[e]at hb ⊢
  have b1:=c0R hb
  obtain⟨r1,ha1,ha0⟩:=j2Z hd hs (by omega) b1
  by_cases hl:s.log.length<1000000000
  ·have e1:=t0C (s:= {s with g:=g0U s.g}) (.give (b0Z s.fr s.g)) hl
   have hb2:=o0E hb e1
   rw[a0A (m:=fun s'=>back (.give (b0Z s.fr s.g)) {s' with g:=g0U s'.g}) e1]
   rw[e1]at r1
   have r2:=x0Y (by rw[r1.depth];exact hd) r1.ok (b0Z s.fr s.g) 1 ha1
   generalize b0Z s.fr s.g=a at*
   have a0:0≤a:=by have:=(p0C.1 ha0).1;omega
   cases e2:g0S a 1 {s with g:=g0U s.g,log:=bk s.depth s.log (.give a)} with
   |mk o2 t2=>
   rw[e2]at r2
   have r12:=r1.trans r2
   have hb2':=c0R hb2
   cases o2 with
   |big=>exact(hb2' (by rw[e2])).elim
   |err e'=>rw[a0Q e2];exact r12.mono (by omega) (by omega)
   |ok u=>
   have hb3:=o0E hb2 e2
   rw[a0A e2]
   have r3:=u1T a 1 t2 (by rw[r12.depth];exact hd) r12.ok (c0R hb3)
   cases e3:l0H a 1 t2 with
   |mk o3 t3=>
   rw[e3]at r3
   have r123:=r12.trans r3
   have hb3':=c0R hb3
   cases o3 with
   |big=>exact(hb3' (by rw[e3])).elim
   |err e'=>rw[a0Q e3];exact r123.mono (by omega) (by omega)
   |ok u=>
   rw[a0A e3]
   obtain⟨k1,k2,k3,k4⟩:=q1O (b:=b) r123.ok.run a0
   have r4:=r123.write ha0 ⟨k1,k2⟩ k3 k4
   have e4:(a0B (s0B fun d=>e0Z d a b) (fun _=>ret a) t3).2= {t3 with d:=(e0Z t3.d a b).2} :=by
    unfold a0B s0B
    cases hw:e0Z t3.d a b with
    |mk o d=>cases o<;>simp only[hw]<;>rfl
   rw[e4];exact r4
  ·exact(b1 (congrArg Prod.fst (y0O (s:= {s with g:=g0U s.g}) (.give (b0Z s.fr s.g)) hl))).elim
theorem k1N (a:Int):UM 0 0 (i0E a):=fun s hd hs _=>by
 unfold i0E;split<;>exact Rel.refl hs
theorem k1O {s:St} {a:Int} (h:d0U s a≠0):a0H a s.refs≠none:=fun e=>h (by simp[d0U,e])
theorem z0S (a:Int):UM 1 0 (j0X a):=fun s hd hs _=>by
 unfold j0X
 by_cases h:d0U s a=0
 ·rw[if_pos h];exact(Rel.refl hs).mono (by omega) (by omega)
 ·rw[if_neg h];exact x0Y hd hs _ _ (hs.held a (k1O h))
theorem k2A (n:Int):UM 1 0 (n0O n):=a2M (by omega)
theorem k2B {s:St} (a:Int) (hd:0<s.depth) (hs:UOK s) (hnot:a ∉ s.gone) (hg:isB s.fr s.g a 2=true)
 (hb:((a0B (fun s=>if 0<h0A s a then a0B (f0H a) (fun _ s=>g0Z (s.gone++ [a]) s) s else ret () s) fun _=>ret true:M Bool) s).1≠ .big):
 Rel 2 0 s ((a0B (fun s=>if 0<h0A s a then a0B (f0H a) (fun _ s=>g0Z (s.gone++ [a]) s) s else ret () s) fun _=>ret true:M Bool) s).2:=by
 have hr: ∀(m:M Unit) (t:St),((a0B m fun _=>ret true:M Bool) t).2=(m t).2:=fun m t=>by
  unfold a0B
  cases m t with
  |mk o u=>cases o<;>rfl
 rw[hr]
 have hb':=c0R hb
 clear hb hr
 by_cases hy:0<h0A s a
 ·simp only[if_pos hy]at hb' ⊢
  have r1:=q1N a s hd hs (c0R hb')
  by_cases hl:s.log.length<1000000000
  ·have e4:f0H a s=(.ok (),{s with log:=bk s.depth s.log (.young a (a0H a s.young)),young:=b0I a s.young}):=by
    simp[f0H,a0B,back,show ¬1000000000≤s.log.length by omega]
   rw[e4]at r1
   rw[a0A e4]
   have r2:=u1U (s:= {s with log:=bk s.depth s.log (.young a (a0H a s.young)),young:=b0I a s.young}) hd r1.ok (s.gone++ [a]) (by simp)
    ⟨by rw[List.nodup_append];exact⟨hs.late.1,by simp,fun x hx y hy e=>hnot (by simp at hy;rw[←hy,←e];exact hx)⟩,fun b hb=>by
     rcases List.mem_append.1 hb with h|h
     ·exact hs.late.2 b h
     ·have e:b=a:=by simpa using h
      subst e;exact hg⟩
   exact r1.trans r2
  ·exact(c0R hb' (by simp[f0H,a0B,back,show 1000000000≤s.log.length by omega])).elim
 ·simp only[if_neg hy];exact(Rel.refl hs).mono (by omega) (by omega)
theorem w0E (a:Int):UM 4 0 (e0I a):=fun s hd hs hb=>by
 cases hi:inR a with
 |false=>exact(hb (by simp[e0I,hi])).elim
 |true=>
 by_cases h0:d0U s a=0
 ·rw[show e0I a s=(.err 6,s) by simp[e0I,hi,h0]];exact(Rel.refl hs).mono (by omega) (by omega)
 by_cases h1:d0U s a=1
 ·have e:e0I a s=a0B (k0F a) (fun _=>a0B (fun s=>back (.back a) {s with g:=mvL s.fr s.g a 1 2}) fun _=>
   a0B (fun s=>if 0<h0A s a then a0B (f0H a) (fun _ s=>g0Z (s.gone++ [a]) s) s else ret () s) fun _=>ret true) s:=by
   simp[e0I,hi,h1]
  rw[e]at hb ⊢
  have ha:=hs.held a (k1O h0)
  by_cases hl:s.log.length<1000000000
  ·have r1:=q1M hd hs a
   have e1:k0F a s=(.ok (),{s with log:=bk s.depth s.log (.refs a (a0H a s.refs)),refs:=b0I a s.refs}):=by
    simp[k0F,a0B,back,show ¬1000000000≤s.log.length by omega]
   rw[e1]at r1
   have hb1:=o0E hb e1
   rw[a0A e1]
   have hn:a0H a (b0I a s.refs)=none:=by rw[c0V a a hs.m.refs];simp
   have r2:=j2Y (s:= {s with log:=bk s.depth s.log (.refs a (a0H a s.refs)),refs:=b0I a s.refs}) hd r1.ok a ha hn (c0R hb1)
   by_cases hl2:(bk s.depth s.log (.refs a (a0H a s.refs))).length<1000000000
   ·have e2:=t0C (s:= {s with log:=bk s.depth s.log (.refs a (a0H a s.refs)),refs:=b0I a s.refs,g:=mvL s.fr s.g a 1 2}) (.back a) hl2
    have r2':Rel 1 0 {s with log:=bk s.depth s.log (.refs a (a0H a s.refs)),refs:=b0I a s.refs} {s with log:=bk s.depth (bk s.depth s.log (.refs a (a0H a s.refs))) (.back a),refs:=b0I a s.refs,g:=mvL s.fr s.g a 1 2} :=by
     rw[e2]at r2;exact r2
    have r12:=r1.trans r2'
    have hb2:=o0E (m:=fun s=>back (.back a) {s with g:=mvL s.fr s.g a 1 2}) hb1 e2
    rw[a0A (m:=fun s=>back (.back a) {s with g:=mvL s.fr s.g a 1 2}) e2]
    have hnot:a ∉ s.gone:=fun hm=>absurd (y0N ha (hs.late.2 a hm)) (by decide)
    have hgl:isB s.fr (mvL s.fr s.g a 1 2) a 2=true:=by rw[m0C ha];simp
    refine(r12.trans (k2B a hd r12.ok hnot hgl hb2)).mono (by omega) (by omega)
   ·exact(c0R hb1 (congrArg Prod.fst (y0O (s:= {s with log:=bk s.depth s.log (.refs a (a0H a s.refs)),refs:=b0I a s.refs,g:=mvL s.fr s.g a 1 2}) (.back a) hl2))).elim
  ·exact(c0R hb (by simp[k0F,a0B,back,show 1000000000≤s.log.length by omega])).elim
 ·have e:e0I a s=a0B (g0S a (m0D (d0U s a-1))) (fun _=>ret false) s:=by simp[e0I,hi,h0,h1]
  rw[e]at hb ⊢
  have r1:=x0Y hd hs a (m0D (d0U s a-1)) (hs.held a (k1O h0))
  cases e1:g0S a (m0D (d0U s a-1)) s with
  |mk o t=>
  rw[e1]at r1
  cases o with
  |big=>exact(c0R hb (by rw[e1])).elim
  |err e'=>rw[a0Q e1];exact r1.mono (by omega) (by omega)
  |ok u=>rw[a0A e1];exact r1.mono (by omega) (by omega)
section
section
variable {α:Type} {c k:Nat}
theorem k0Q {p:Prop} [Decidable p] {m n:M α} (h:UM c k m) (j:UM c k n):UM c k (if p then m else n):=by split<;>assumption
theorem k0K {m:M α} (h:UM 0 0 m):UM c k m:=h.mono (by omega) (by omega)
end
theorem f1R (a:Int):UM 0 0 (h0M a):=c0L (k1N a) fun _=>w1V _
theorem m1Q (x:Hd): ∀n,UM 0 0 (f0N x n)
 |0=>d0G _
 |n+1=>c0L (k0Q (c0L (k1N _) fun _=>k0Q (v0K _) (d0G _)) (d0G _)) fun _=>c0L (m1Q x n) fun _=>d0G _
theorem w1Y (a:Int):UM 0 0 (k0H a):=k0Q (d0G _) (c0L (f1R a) fun x=>m1Q x 4)
theorem o2R (a:Int):UM 0 0 (q0R a):=k0Q (d0G _) (c0L (f1R a) fun _=>d0G _)
theorem k2C (a:Int):UM 1 0 (s0F a):=k0Q (k0K (d0G _)) (z0S a)
theorem q1P (data:B): ∀n,UM (n*3) n (m0K data n)
 |0=>d0G _
 |n+1=>(c0L (c:=3) (k:=1) (k0Q (k0K (d0G _)) (c0L (y0P _) fun _=>d0G _)) fun _=>c0L (q1P data n) fun _=>d0G _).mono (by omega) (by omega)
theorem o2S (data:B):UM 16 5 (i0F data):=by
 unfold i0F
 refine k0Q (k0K (v0K _)) (k0Q (k0K (d0G _)) ?_)
 intro s hd hs hb
 cases h:a0H (key s.bits (Sha.sum data)) s.index with
 |some a=>
  simp only[h]at hb ⊢
  exact((c0L (w1Y a) fun was=>k0Q (k0K (v0K _)) (c0L (z0S a) fun _=>d0G a)) s hd hs hb).mono (by omega) (by omega)
 |none=>
  simp only[h]at hb ⊢
  exact((c0L (q1P data 4) fun ps=>c0L (y0P _) fun a=>c0L (a2K (m:=fun s=>f0C (key s.bits (Sha.sum data)) a) fun _=>e1P _ _) fun _=>d0G a) s hd hs hb).mono (by omega) (by omega)
theorem a2O (i:Int):UM 4 0 (i0Q i):=k0Q (c0L (w0E i) fun _=>d0G _) (k0K (d0G _))
theorem k0L (k:Nat): ∀n l,(g0H k n l).length=n
 |0,_=>rfl
 |n+1,l=>by simp[g0H,k0L k n]
theorem u1V {b:B} {x:Hd} (h:h0D b= .ok x):x.at_.length=4:=by
 unfold h0D at h
 split at h
 ·cases h
 ·cases h
 ·split at h
  ·cases h
  ·split at h
   ·cases h
   ·cases h;simp[k0L]
theorem u1W {l:Nat} {b:B} {x:Nd} (h:f0P l b= .ok x):x.kids.length=8:=by
 unfold f0P at h
 split at h
 ·cases h
 ·cases h
 ·split at h
  ·cases h
  ·split at h
   ·cases h
   ·split at h
    ·cases h
    ·cases h;simp[k0L]
theorem o2T {α:Type} {c k:Nat} {a:Int} {f:Hd→M α} (h: ∀x:Hd,x.at_.length=4→UM c k (f x)):UM c k (a0B (h0M a) f):=by
 intro s hd hs hb
 have r1:=f1R a s hd hs (c0R hb)
 cases e:h0M a s with
 |mk o t=>
 rw[e]at r1
 cases o with
 |big=>exact(c0R hb (by rw[e])).elim
 |err e'=>rw[a0Q e];exact r1.mono (by omega) (by omega)
 |ok x=>
  have hx:x.at_.length=4:=by
   unfold h0M a0B at e
   split at e
   ·simp only[s0Z,Prod.mk.injEq]at e;exact u1V e.1
   ·cases e
   ·cases e
  have hb2:=o0E hb e
  rw[a0A e]
  exact(r1.trans (h x hx t (by rw[r1.depth];exact hd) r1.ok hb2)).mono (by omega) (by omega)
theorem f1S (a:Int):UM 21 0 (g0A a):=by
 unfold g0A
 refine k0Q (k0K (d0G _)) (o2T fun x hx=> ?_)
 refine(c0L (w0E a) (c':=17) (k':=0) fun b=> ?_).mono (by omega) (by omega)
 cases b with
 |false=>exact k0K (d0G _)
 |true=>
  simp only[if_true]
  have h1:=y0M (c:=4) (k:=0) a2O x.at_
  rw[hx]at h1
  exact(c0L h1 fun _=>a2K (m:=fun s=>g0W (key s.bits x.sum)) fun _=>c1D _).mono (by omega) (by omega)
theorem d1S (a:Int) (l:Nat):UM 0 0 (load a l):=k0Q (d0G _) (c0L (k1N a) fun _=>w1V _)
theorem i0H {a:Int} {l:Nat} {s t:St} {n:Nd} (h:load a l s=(.ok n,t)):n.kids.length=8:=by
 unfold load at h
 split at h
 ·cases h;rfl
 ·unfold a0B at h
  split at h
  ·simp only[s0Z,Prod.mk.injEq]at h;exact u1W h.1
  ·cases h
  ·cases h
theorem k1P {α:Type} {c k:Nat} {a:Int} {l:Nat} {f:Nd→M α} (h: ∀n:Nd,n.kids.length=8→UM c k (f n)):UM c k (a0B (load a l) f):=by
 intro s hd hs hb
 have r1:=d1S a l s hd hs (c0R hb)
 cases e:load a l s with
 |mk o t=>
 rw[e]at r1
 cases o with
 |big=>exact(c0R hb (by rw[e])).elim
 |err e'=>rw[a0Q e];exact r1.mono (by omega) (by omega)
 |ok x=>
  have hb2:=o0E hb e
  rw[a0A e]
  exact(r1.trans (h x (i0H e) t (by rw[r1.depth];exact hd) r1.ok hb2)).mono (by omega) (by omega)
theorem q1Q (a:Int) (l:Nat):UM 1 0 (g0O a l):=k0Q (k0K (d0G _)) (k0Q (k2C a) (z0S a))
def j0D:Nat→Nat
 |0=>21
 |l+1=>4+8*j0D l
theorem q1R: ∀(l:Nat) (a:Int),UM (j0D l) 0 (g0B l a)
 |0,a=>f1S a
 |l+1,a=>by
  unfold g0B
  refine k0Q (k0K (d0G _)) (k1P fun n hn=> ?_)
  refine(c0L (w0E a) (c':=8*j0D l) (k':=0) fun b=> ?_)
  cases b with
  |false=>exact k0K (d0G _)
  |true=>
   simp only[if_true]
   have h1:=y0M (c:=j0D l) (k:=0) (q1R l) n.kids
   rw[hn]at h1
   exact h1.mono (by omega) (by omega)
theorem f1T (a:Int) (l:Nat):UM (j0D (l+1)) 0 (t0Q a l):=q1R (l+1) a
theorem f1U (l:Nat): ∀ks,UM 0 0 (g0P l ks)
 | []=>d0G _
 |k::ks=>by
  unfold g0P
  refine c0L ?_ fun _=>c0L (f1U l ks) fun _=>d0G _
  cases l with
  |zero=>exact o2R k
  |succ n=>exact c0L (d1S k n) fun _=>d0G _
def f0U:Nat→Nat
 |0=>8+j0D 1+21+3
 |l+1=>8+j0D (l+2)+f0U l+3
theorem w1Z: ∀(l:Nat) (root:Int) (at_:Nat) (to_:Int),UM (f0U l) (l+1) (h0V l root at_ to_)
 |0,root,at_,to_=>by
  unfold h0V
  refine k1P fun n hn=> ?_
  have h1:=y0M (c:=1) (k:=0) (f:=(g0O · 0)) (q1Q · 0) n.kids
  rw[hn]at h1
  refine(c0L h1 fun _=>c0L (f1T root 0) fun _=>c0L (c0L (f1S _) fun _=>d0G to_) fun r=> ?_:UM (8*1+(j0D 1+(21+0+3))) (8*0+(0+(0+0+1))) _).mono (by simp only[f0U];omega) (by omega)
  exact k0Q (k0K (d0G _)) ((c0L (f1U _ _) fun _=>y0P _).mono (by omega) (by omega))
 |l+1,root,at_,to_=>by
  unfold h0V
  refine k1P fun n hn=> ?_
  have h1:=y0M (c:=1) (k:=0) (f:=(g0O · (l+1))) (q1Q · (l+1)) n.kids
  rw[hn]at h1
  refine(c0L h1 fun _=>c0L (f1T root (l+1)) fun _=>c0L (w1Z l _ _ to_) fun r=> ?_:UM (8*1+(j0D (l+2)+(f0U l+3))) (8*0+(0+(l+1+1))) _).mono (by simp only[f0U];omega) (by omega)
  exact k0Q (k0K (d0G _)) ((c0L (f1U _ _) fun _=>y0P _).mono (by omega) (by omega))
theorem k1Q: ∀(l:Nat) (root:Int) (at_:Nat),UM 0 0 (k0I l root at_)
 |0,root,at_=>c0L (d1S root 0) fun _=>d0G _
 |l+1,root,at_=>c0L (d1S root (l+1)) fun _=>k1Q l _ _
theorem x1A (root:Int) (at_:Nat) (to_:Int):UM (f0U 2) 3 (l0J root at_ to_):=
 (c0L (k1Q 2 root at_) fun x=>k0Q (c:=f0U 2) (k:=3) ((c0L (f1S to_) fun _=>d0G root).mono (by decide) (by omega)) (w1Z 2 root at_ to_)).mono (by omega) (by omega)
theorem k1R (id:Int):UM 0 0 (find id):=fun s hd hs _=>by unfold find;split<;>exact Rel.refl hs
theorem f1V (id:Int):UM 0 0 (l0C id):=c0L (k1R id) fun _=>k0Q (v0K _) (d0G _)
theorem e2Q (x:Ent) (a n:Int):UM 0 0 (k0U x a n):=k0Q (v0K _) (d0G _)
theorem v0L (x:Ent):UM 1 0 (l0K x):=a2L _ _
theorem o2U (x:Ent):UM 2 0 (u0K x):=a2K (m:=fun s=>a0B (o0X (m0F (s.next+1))) (fun _=>a0B (l0K {x with id:=s.next,born:=s.epoch}) fun _=>ret s.next)) fun s=>c0L (a2N _) fun _=>c0L (v0L _) fun _=>d0G _
theorem x1B (x:Ent) (i:Nat):UM 0 0 (o0H x i):=c0L (k1Q 2 x.root i) w1Y
theorem o2V (x:Ent) (i:Nat) (data:B):UM (16+f0U 2) 8 (q0S x i data):=c0L (o2S data) fun a=>c0L (x1A x.root i a) fun _=>d0G _
theorem q1S: ∀(n:Nat) (x:Ent) (at_:Nat) (data:B) (m:Nat),data.length≤64*m→data.length%64=0→UM (m*(16+f0U 2)) (m*8) (j0C n x at_ data)
 |0,x,at_,data,m,_,_=>k0K (d0G _)
 |n+1,x,at_,data,m,h,h64=>by
  unfold j0C
  by_cases h0:data= []
  ·rw[if_pos h0];exact k0K (d0G _)
  ·rw[if_neg h0]
   have hl:data.length≠0:=fun e=>h0 (List.eq_nil_of_length_eq_zero e)
   obtain⟨m,rfl⟩: ∃m',m=m'+1:=⟨m-1,by omega⟩
   have hmin:(data.drop (min data.length (256-at_%4*64))).length≤64*m:=by simp;omega
   have hmod:(data.drop (min data.length (256-at_%4*64))).length%64=0:=by simp;omega
   exact(c0L (x1B x _) fun was=>c0L (o2V x _ _) fun x=>q1S n x _ _ m hmin hmod).mono (by rw[Nat.succ_mul];omega) (by rw[Nat.succ_mul];omega)
end
theorem l0X (x k:Nat): ∀m,(beB x k m).length=m
 |0=>rfl
 |m+1=>by simp[beB,l0X x k m]
theorem r2J (a:B): ∀(b:B),be (a++b)=be a*256^b.length+be b:=by
 intro b
 have h: ∀(b:B) (n:Nat),b.foldl (fun n c=>n*256+c.toNat) n=n*256^b.length+b.foldl (fun n c=>n*256+c.toNat) 0:=by
  intro b
  induction b with
  |nil=>intro n;simp
  |cons c b ih=>
   intro n
   simp only[List.foldl_cons,List.length_cons]
   rw[ih (n*256+c.toNat),ih (0*256+c.toNat),Nat.pow_succ]
   simp only[Nat.zero_mul,Nat.zero_add,Nat.add_mul,Nat.mul_assoc,Nat.mul_comm 256,Nat.add_assoc]
 unfold be
 rw[List.foldl_append,h b]
theorem x1C (x k:Nat): ∀m,m≤k→be (beB x k m)=x/256^(k-m)%256^m
 |0,_=>by simp[beB,be,Nat.mod_one]
 |m+1,h=>by
  have ih:=x1C x k m (by omega)
  have e1:be [UInt8.ofNat (x/256^(k-1-m))]=x/256^(k-1-m)%256:=by simp[be]
  have hk:k-m=(k-1-m)+1:=by omega
  have hk2:k- (m+1)=k-1-m:=by omega
  rw[beB,r2J,ih,e1,hk2,hk]
  generalize k-1-m=j
  rw[Nat.pow_succ,←Nat.div_div_eq_div_mul]
  generalize x/256^j=y
  have e2:256^(m+1)=256*256^m:=by rw[Nat.pow_succ,Nat.mul_comm]
  rw[e2,Nat.mod_mul]
  simp only[List.length_singleton,Nat.pow_one]
  rw[Nat.mul_comm];omega
theorem q1T {x k:Nat} (h:x<256^k):be (beB x k k)=x:=by
 rw[x1C x k k (Nat.le_refl _),Nat.sub_self,Nat.pow_zero,Nat.div_one,Nat.mod_eq_of_lt h]
theorem q1U {a:Int} {k:Nat} (h0:0≤a) (h:a<256^k) (hk:k≤7):(be (num a k):Int)=a:=by
 have h2:(256:Nat)^k≤256^7:=Nat.pow_le_pow_right (by decide) hk
 have h3:a.toNat<256^k:=by
  have:((256^k:Nat):Int)=(256:Int)^k:=by simp
  omega
 have e:u64 a=a.toNat:=by unfold u64;omega
 unfold num
 rw[e,q1T h3];omega
theorem j0M (a:Int) (k:Nat):(num a k).length=k:=l0X _ _ _
theorem z0T {α:Type} {f:α→B} {k:Nat} (h: ∀x,(f x).length=k) (t:B): ∀(l:List α),g0H k l.length (l.flatMap f++t)=l.map fun a=>be (f a)
 | []=>rfl
 |x::l=>by
  simp only[List.length_cons,g0H,List.flatMap_cons,List.append_assoc,List.map_cons]
  rw[List.take_left' (h x),List.drop_left' (h x),z0T h t l]
theorem p0V {n:Nat} {l:B} (h:l.length≤n):(f0R n l).length=n:=by simp[f0R,a0T];omega
theorem d1T (b:B):f0T b<256^4:=by have:=(Crc.crc b).isLt;unfold f0T;omega
theorem m1R {b:B} (h:b.length≤60):h0C (t0P b)= .ok (f0R 60 b):=by
 have h1:=p0V h
 have h2:(beB (f0T (f0R 60 b)) 4 4).length=4:=l0X _ _ _
 unfold h0C t0P
 simp only[List.length_append,h1,h2]
 rw[if_neg (by omega),if_neg (by omega),List.drop_left' h1,List.take_left' h1,List.take_of_length_le (by omega),q1T (d1T _)]
 simp
theorem e1R {b:B} (h:b.length≤60):(t0P b).length=64:=by
 unfold t0P;rw[List.length_append,p0V h,l0X]
theorem e0P (n:Nat):b0B (a0T n)=true:=by simp[b0B,a0T]
structure HdOK (x:Hd):Prop where
 n:x.at_.length=4
 at_: ∀a∈x.at_,0≤a∧a<65536
 m:x.sums.length=4
 sums: ∀c∈x.sums,c<4294967296
 sum:x.sum.length=32
theorem h0K {α:Type} {f:α→B} {k:Nat} (h: ∀x,(f x).length=k): ∀l:List α,(l.flatMap f).length=l.length*k
 | []=>by simp
 |x::l=>by simp[h,h0K h l,Nat.succ_mul,Nat.add_comm]
theorem x1D {x:Hd} (h:HdOK x):h0D (h0B x)= .ok x∧(h0B x).length=64:=by
 have l1:(x.at_.flatMap (num · 2)).length=8:=by rw[h0K (k:=2) fun a=>j0M a 2,h.n]
 have l2:(x.sums.flatMap fun s=>beB s 4 4).length=16:=by rw[h0K (k:=4) fun a=>l0X a 4 4,h.m]
 have hl:([69]++x.at_.flatMap (num · 2)++x.sums.flatMap (fun s=>beB s 4 4)++x.sum).length=57:=by simp only[List.length_append,l1,l2,h.sum,List.length_singleton]
 refine⟨?_,e1R (by omega)⟩
 unfold h0D h0B
 rw[m1R (by omega)]
 generalize hA:x.at_.flatMap (num · 2)=A at*
 generalize hS:x.sums.flatMap (fun s=>beB s 4 4)=S at*
 have e:f0R 60 ([69]++A++S++x.sum)= [69]++(A++(S++(x.sum++a0T 3))):=by
  unfold f0R;rw[hl];simp only[List.append_assoc]
 simp only[e]
 have d1:([69]++(A++(S++(x.sum++a0T 3)))).drop 1=A++(S++(x.sum++a0T 3)):=rfl
 have d9:([69]++(A++(S++(x.sum++a0T 3)))).drop 9=S++(x.sum++a0T 3):=by
  show(A++(S++(x.sum++a0T 3))).drop 8=_;exact List.drop_left' l1
 have d25:([69]++(A++(S++(x.sum++a0T 3)))).drop 25=x.sum++a0T 3:=by
  rw[show(25:Nat)=9+16 from rfl,←List.drop_drop,d9];exact List.drop_left' l2
 have d57:([69]++(A++(S++(x.sum++a0T 3)))).drop 57=a0T 3:=by
  rw[show(57:Nat)=25+32 from rfl,←List.drop_drop,d25];exact List.drop_left' h.sum
 rw[d1,d9,d25,d57,List.take_left' h.sum]
 have n1:g0H 2 4 (A++(S++(x.sum++a0T 3)))=x.at_.map fun a=>be (num a 2):=by
  have:=z0T (fun a=>j0M a 2) (S++(x.sum++a0T 3)) x.at_
  rw[h.n,hA]at this;exact this
 have n2:g0H 4 4 (S++(x.sum++a0T 3))=x.sums:=by
  have:=z0T (fun a=>l0X a 4 4) (x.sum++a0T 3) x.sums
  rw[h.m,hS]at this
  rw[this]
  refine(List.map_congr_left (g:=id) fun c hc=> ?_).trans (List.map_id _)
  exact q1T (Nat.lt_of_lt_of_eq (h.sums c hc) (by decide))
 rw[n1,n2]
 have n3:(x.at_.map fun a=>be (num a 2)).map Int.ofNat=x.at_:=by
  rw[List.map_map]
  refine(List.map_congr_left (g:=id) fun a ha=> ?_).trans (List.map_id _)
  exact q1U (h.at_ a ha).1 (by have:=(h.at_ a ha).2;simpa using this) (by decide)
 rw[n3]
 simp[e0P]
structure NdOK (x:Nd):Prop where
 n:x.kids.length=8
 kids: ∀a∈x.kids,0≤a∧a<65536
 sum:x.sum.length=32
theorem x1E {x:Nd} {l:Nat} (hl:l<256) (h:NdOK x):f0P l (i0R l x)= .ok x∧(i0R l x).length=64:=by
 have l1:(x.kids.flatMap (num · 2)).length=16:=by rw[h0K (k:=2) fun a=>j0M a 2,h.n]
 have l0:(num l 1).length=1:=j0M _ _
 have hl':([78]++num l 1++x.kids.flatMap (num · 2)++x.sum).length=50:=by simp only[List.length_append,l1,l0,h.sum,List.length_singleton]
 refine⟨?_,e1R (by omega)⟩
 unfold f0P i0R
 rw[m1R (by omega)]
 have hb:be (num l 1)=l:=by
  have:=q1U (a:=(l:Int)) (k:=1) (by omega) (by simp;omega) (by decide)
  omega
 generalize hA:x.kids.flatMap (num · 2)=A at*
 generalize num (l:Int) 1=N at*
 have e:f0R 60 ([78]++N++A++x.sum)= [78]++(N++(A++(x.sum++a0T 10))):=by
  unfold f0R;rw[hl'];simp only[List.append_assoc]
 simp only[e]
 have d1:([78]++(N++(A++(x.sum++a0T 10)))).drop 1=N++(A++(x.sum++a0T 10)):=rfl
 have d2:([78]++(N++(A++(x.sum++a0T 10)))).drop 2=A++(x.sum++a0T 10):=by
  show(N++(A++(x.sum++a0T 10))).drop 1=_;exact List.drop_left' l0
 have d18:([78]++(N++(A++(x.sum++a0T 10)))).drop 18=x.sum++a0T 10:=by
  rw[show(18:Nat)=2+16 from rfl,←List.drop_drop,d2];exact List.drop_left' l1
 have d50:([78]++(N++(A++(x.sum++a0T 10)))).drop 50=a0T 10:=by
  rw[show(50:Nat)=18+32 from rfl,←List.drop_drop,d18];exact List.drop_left' h.sum
 rw[d1,d2,d18,d50,List.take_left' h.sum,List.take_left' l0,hb]
 have n1:g0H 2 8 (A++(x.sum++a0T 10))=x.kids.map fun a=>be (num a 2):=by
  have:=z0T (fun a=>j0M a 2) (x.sum++a0T 10) x.kids
  rw[h.n,hA]at this;exact this
 rw[n1]
 have n3:(x.kids.map fun a=>be (num a 2)).map Int.ofNat=x.kids:=by
  rw[List.map_map]
  refine(List.map_congr_left (g:=id) fun a ha=> ?_).trans (List.map_id _)
  exact q1U (h.kids a ha).1 (by have:=(h.kids a ha).2;simpa using this) (by decide)
 rw[n3]
 simp[e0P]
end Go.Sb
namespace Go.Proofs.Q
open Go.Sl Go.Sb
section
attribute [local irreducible] Sl.a0L Sl.OW Sl.CW Sl.OS Sl.OM Sl.OMf Sl.KM
theorem c1E (b:Nat) (v:Value) (l:List UInt8) (h1:v.oneCell'=true):a0S Tryz.prog 83 #[.pointer (some ⟨b,0,none⟩)] (n0V b v l) (b0G (.string (bs l)) (n0V b v l)):=by
 refine a0C Tryz.func83 rfl Tryz.ntmps83 rfl (fun R w0=> ?_)
 simp only[a0N,List.cons_append,List.nil_append]
 refine go 11 ?_
 refine a0F (w0Z Tsl.o Tst.o Tby.o rfl gFd) ?_
 refine go 3 ?_
 refine b0V (fun _ _ h=>h) rfl rfl gSp
theorem c1F (x:Int):IntKind.u64.wrap x=((u64 x:Nat):Int):=by
 simp only[IntKind.wrap,IntKind.bits,IntKind.signed,Bool.false_and,Bool.false_eq_true,if_false,u64]
 omega
theorem q1V (x:Int):u64 x<18446744073709551616:=by unfold u64;omega
theorem w0F (b:B):f0T b<4294967296:=Nat.lt_of_lt_of_eq (d1T b) (by decide)
def hdL (x:Hd):List Value:=x.at_.map a0V++((x.sums.map fun n:Nat=>Value.int .u32 n)++x.sum.map a0Z)
def hdV (x:Hd):Value:= .agg (hdL x).toArray
structure z0U (x:Hd):Prop where
 n:x.at_.length=4
 m:x.sums.length=4
 sums: ∀c∈x.sums,c<4294967296
 sum:x.sum.length=32
theorem c1G {α:Type} (f:α→B) (l:List α) (i:Nat) (h:i<l.length):(l.take (i+1)).flatMap f=(l.take i).flatMap f++f l[i]:=by
 rw[List.take_succ,List.getElem?_eq_getElem h,List.flatMap_append];simp
theorem n0W {α:Type} (f:α→Value) (l:List α) (i k:Nat) (h:i<l.length) (hk:k=i):nth (l.map f) k=some (f l[i]):=by
 subst hk;rw[e0L,List.getElem?_map,List.getElem?_eq_getElem h];rfl
theorem e0M {a b c:List Value} {o n:Nat} (ha:a.length=o) (hb:b.length=n):(a++(b++c)).toArray.extract o (o+n)=b.toArray:=by
 apply Array.ext'
 simp only[Array.toList_extract,List.extract_eq_take_drop]
 rw[List.drop_left' ha,show o+n-o=n by omega,List.take_left' hb]
set_option maxRecDepth 4000 in
theorem q1W (x:Hd) (h:z0U x):a0S Tryz.prog 203 #[hdV x] [] (b0G (b0H (h0B x)) []):=by
 obtain⟨hn,hm,hs,hu⟩:=h
 unfold hdV
 have l1: ∀i,((x.at_.take i).flatMap (num · 2)).length≤8:=fun i=>by rw[h0K (k:=2) fun a=>j0M a 2];simp;omega
 have l2: ∀i,((x.sums.take i).flatMap fun s=>beB s 4 4).length≤16:=fun i=>by rw[h0K (k:=4) fun a=>l0X a 4 4];simp;omega
 have c1:(x.at_.map a0V).length=4:=by simp[hn]
 have c2:(x.sums.map fun n:Nat=>Value.int .u32 n).length=4:=by simp[hm]
 have c3:(x.sum.map a0Z).length=32:=by simp[hu]
 refine a0C Tryz.func203 rfl Tryz.ntmps203 rfl (fun R w0=> ?_)
 simp only[a0N,List.cons_append,List.nil_append]
 refine go 2 ?_
 refine(a0X rfl (fun b1=> ?_))
 refine go 5 ?_
 refine(a0U Zr.o (fun b3=> ?_))
 refine go 3 ?_
 refine c0S (L':=n0V b3 (.slice none 0 0) []++ [pts b1 (.cells (hdL x).toArray 230 (0,0)),R]) (fun w h=>(h0S 5 1 w h).perm (List.Perm.swap _ _ _)) ?_
 simp only[List.cons_append,List.nil_append]
 refine go 1 ?_
 refine a0W rfl Hb.o rfl (s0E b3 (.slice none 0 0) [] ⟨#[69]⟩ (by simp) (by decide) rfl) gSp ?_
 rintro v9 hv9
 refine ns ?_
 refine go 6 ?_
 refine a0F (a0O Ag.o rfl (by simp[hdL,c1,c2,c3]) (e0M (a:= []) rfl c1)) ?_
 refine go 4 ?_
 refine b0S (X:= {y:Nat×Value // y.1≤4∧y.2.oneCell'=true}) (fun y=> [(1,ptr b1),(3,ptr b3),(11,.agg (x.at_.map a0V).toArray),(12,.int .i64 y.1.1)]) (fun y=>n0V b3 y.1.2 ([69]++(x.at_.take y.1.1).flatMap (num · 2))++ [pts b1 (.cells (hdL x).toArray 230 (0,0)),R]) (fun y=>4-y.1.1) ⟨(0,v9),by omega,hv9⟩ gSu gSp ?_
 rintro⟨⟨i,v⟩,hi,hv⟩ m0 hm0
 try simp only at hm0
 try dsimp only
 simp only at hi hv
 simp only[List.cons_append,List.nil_append]
 refine go 6 ?_
 refine b0C rfl (fun hb13=> ?_) (fun hb13=> ?_)
 ·have hi4:i<4:=by have:=of_decide_eq_true hb13;omega
  have hil:i<x.at_.length:=by omega
  refine go 6 ?_
  refine a0F (q0Y Tar.o Sc.o rfl rfl (by omega) (n0W a0V x.at_ i _ hil (by omega))) ?_
  refine go 6 ?_
  rw[c1F]
  refine a0W rfl Hb.o rfl (r0M b3 v (69::(x.at_.take i).flatMap (num · 2)) (u64 x.at_[i]) 2 (by omega) (by have:=l1 i;(try simp only[List.length_cons,List.length_append,List.length_nil]);omega) hv (q1V _)) gSp ?_
  rintro v17 hv17
  refine ns ?_
  refine go 1 ?_
  rw[show(x.at_.take i).flatMap (num · 2)++beB (u64 x.at_[i]) 2 2=(x.at_.take (i+1)).flatMap (num · 2)from(c1G (num · 2) x.at_ i hil).symm]
  refine go 5 ?_
  refine b0Q (fun _ _ h=>h) (⟨(i+1,v17),hi4,hv17⟩) (by first|omega| (simp only;omega)) gSu gSp
 ·obtain rfl:i=4:=by have:=of_decide_eq_false hb13;omega
  rw[List.take_of_length_le (by omega)]
  have lA:=l1 4
  rw[List.take_of_length_le (by omega)]at lA
  generalize hA:x.at_.flatMap (num · 2)=A at lA ⊢
  have l3: ∀i,(A++(x.sums.take i).flatMap fun s=>beB s 4 4).length≤24:=fun i=>by have:=l2 i;rw[List.length_append];omega
  refine go 6 ?_
  refine a0F (a0O Ag.o rfl (by simp[hdL,c1,c2,c3]) (e0M c1 c2)) ?_
  refine go 4 ?_
  rw[show(69::A:B)=69::(A++(x.sums.take 0).flatMap (fun s=>beB s 4 4))from by simp]
  refine b0S (X:= {y:Nat×Value // y.1≤4∧y.2.oneCell'=true}) (fun y=> [(1,ptr b1),(3,ptr b3),(20,.agg (x.sums.map fun n:Nat=>Value.int .u32 n).toArray),(21,.int .i64 y.1.1)]) (fun y=>n0V b3 y.1.2 (69::(A++(x.sums.take y.1.1).flatMap (fun s=>beB s 4 4)))++ [pts b1 (.cells (hdL x).toArray 230 (0,0)),R]) (fun y=>4-y.1.1) ⟨(0,v),by omega,hv⟩ gSu gSp ?_
  rintro⟨⟨i,v'⟩,hi',hv'⟩ m2 hm2
  try simp only at hm2
  try dsimp only
  simp only at hi' hv'
  simp only[List.cons_append,List.nil_append]
  refine go 6 ?_
  refine b0C rfl (fun hb22=> ?_) (fun hb22=> ?_)
  ·have hi4:i<4:=by have:=of_decide_eq_true hb22;omega
   have hil:i<x.sums.length:=by omega
   have hsl:=hs x.sums[i] (List.getElem_mem hil)
   refine go 6 ?_
   refine a0F (q0Y Tar.o Sc.o rfl rfl (by omega) (n0W (fun n:Nat=>Value.int .u32 n) x.sums i _ hil (by omega))) ?_
   refine go 6 ?_
   rw[p0R _ _ rfl (by omega)]
   refine a0W rfl Hb.o rfl (r0M b3 v' (69::(A++(x.sums.take i).flatMap fun s=>beB s 4 4)) x.sums[i] 4 (by omega) (by have:=l3 i;(try simp only[List.length_cons]);omega) hv' (by omega)) gSp ?_
   rintro v26 hv26
   refine ns ?_
   refine go 1 ?_
   rw[List.append_assoc,show(x.sums.take i).flatMap (fun s=>beB s 4 4)++beB x.sums[i] 4 4=(x.sums.take (i+1)).flatMap (fun s=>beB s 4 4)from(c1G (fun s=>beB s 4 4) x.sums i hil).symm]
   refine go 5 ?_
   refine b0Q (fun _ _ h=>h) (⟨(i+1,v26),hi4,hv26⟩) (by first|omega| (simp only;omega)) gSu gSp
  ·obtain rfl:i=4:=by have:=of_decide_eq_false hb22;omega
   rw[List.take_of_length_le (by omega)]
   have lS:=l3 4
   rw[List.take_of_length_le (by omega)]at lS
   generalize hS:A++x.sums.flatMap (fun s=>beB s 4 4)=S at lS ⊢
   have hl57:(69::(S++x.sum)).length≤60:=by simp only[List.length_cons,List.length_append];omega
   have hpl:=p0V hl57
   refine go 5 ?_
   refine a0F (a0O (v:=(x.sum.map a0Z).toArray) Ag.o rfl (by simp only[hdL,List.size_toArray,List.length_append,c1,c2,c3];omega) (by rw[show hdL x=(x.at_.map a0V++(x.sums.map fun n:Nat=>Value.int .u32 n))++(x.sum.map a0Z++ []) by simp[hdL]];exact e0M (by rw[List.length_append,c1,c2]) c3)) ?_
   refine a0D rfl Hb.o rfl (s0H x.sum hu) gSp ?_
   refine ns ?_
   refine a0W rfl Hb.o rfl (s0E b3 v' (69::S) (bs x.sum) (by simp only[List.length_cons];omega) (by rw[b0N,hu];omega) hv') gSp ?_
   rintro v31 hv31
   refine ns ?_
   try rw[l0B]
   refine a0W rfl Hb.o rfl (z0Q b3 v31 (69::(S++x.sum)) 60 hl57 (by omega) hv31) gSp ?_
   rintro v32 hv32
   refine ns ?_
   refine a0D rfl Hb.o rfl (c1E b3 v32 _ hv32) gSp ?_
   refine ns ?_
   refine go 6 ?_
   refine(b0P Tsl.o Zr.o rfl rfl rfl (by simp[d0B,d0K,Value.cells]<;>rfl) (fun b35=> ?_))
   refine a0D rfl Hb.o rfl (r0N b35 1 _ (by rw[b0N,hpl];simp[maxLen])) gSp ?_
   refine ns ?_
   refine go 1 ?_
   rw[show((Crc.crc (f0R 60 (69::(S++x.sum)))).toNat:Int)=(f0T (f0R 60 (69::(S++x.sum))):Nat)from rfl,p0R _ _ rfl (by have:=w0F (f0R 60 (69::(S++x.sum)));omega)]
   refine a0W rfl Hb.o rfl (r0M b3 v32 (f0R 60 (69::(S++x.sum))) (f0T (f0R 60 (69::(S++x.sum)))) 4 (by omega) (by rw[hpl];omega) hv32 (by have:=w0F (f0R 60 (69::(S++x.sum)));omega)) gSp ?_
   rintro v38 hv38
   refine ns ?_
   refine a0D rfl Hb.o rfl (t0O b3 v38 _ hv38) gSp ?_
   refine ns ?_
   refine go 3 ?_
   refine b0V (fun _ _ h=>h) rfl (by unfold h0B t0P;simp only[List.cons_append,List.nil_append,List.append_assoc];rw[←hS,←hA];simp only[List.append_assoc]) gSp
end
end Go.Proofs.Q

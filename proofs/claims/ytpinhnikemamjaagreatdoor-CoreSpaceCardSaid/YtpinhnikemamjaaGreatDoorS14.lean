/- Part of the proof; no statement of its own. -/
import Derived.Test.YtpinhnikemamjaaGreatDoorS13
set_option linter.all false
set_option maxRecDepth 4000
set_option maxHeartbeats 4000000
namespace Go.Sb
section
def e1Q (m:Nat→B) (a b:Nat):Nat→B:=fun j=>if a≤j∧j<b then a0L 256 else m j
def y0C (m:Nat→B) (fr u:Nat):Nat→B:=
 if u/4≤(fr+3)/4 then k0J ((u-fr)*64) m fr (a0L ((u-fr)*64))else
 k0J ((u-4*(u/4))*64) (e1Q (k0J ((4*((fr+3)/4)-fr)*64) m fr (a0L ((4*((fr+3)/4)-fr)*64))) ((fr+3)/4) (u/4)) (4*(u/4)) (a0L ((u-4*(u/4))*64))
def s0S (bits:Nat) (Os:List (Nat→B)) (m:Nat→B) (fr u:Nat):Prop:=
 if u/4≤(fr+3)/4 then j0N bits Os ((u-fr)*64) m fr (a0L ((u-fr)*64))else
 j0N bits Os ((4*((fr+3)/4)-fr)*64) m fr (a0L ((4*((fr+3)/4)-fr)*64))∨
 j0N bits Os ((u-4*(u/4))*64) (e1Q (k0J ((4*((fr+3)/4)-fr)*64) m fr (a0L ((4*((fr+3)/4)-fr)*64))) ((fr+3)/4) (u/4)) (4*(u/4)) (a0L ((u-4*(u/4))*64))
theorem u1H {α:Type} [DecidableEq α]: ∀ {l m:List α},l.Nodup→l ⊆ m→l.length≤m.length
 | [],_,_,_=>Nat.zero_le _
 |x::l,m,hn,hs=>by
  obtain⟨h1,h2⟩:=List.nodup_cons.1 hn;have hx:x∈m:=hs List.mem_cons_self;have:=u1H (l:=l) (m:=m.erase x) h2 (fun y hy=>(List.mem_erase_of_ne (fun e=>h1 (by rw[←e];exact hy))).2 (hs (List.mem_cons_of_mem _ hy)));rw[List.length_erase_of_mem hx]at this;have:=List.length_pos_of_mem hx;rw[List.length_cons];omega
section
variable {s:St} {G:Gh} {P:List Int}
theorem Inv.msetMap {root:Int} {i:Nat} (h:Inv s G (root::P)) (hi:Idx s G) (hroot:a0W G 3 root) (hat:i<512) (hr:d0J (g0H 2) s) (hP:P.length≤700000):
 (∃r s' G',Go.Sb.m0G root i 0 s=(.ok r,s')∧Inv s' G' (r::P)∧Stp (g0H 2) 3 s G s' G'∧a0W G' 3 r∧a0Z G' r=upd (a0Z G root) i (a0L 256))∨Fl 3 False (Go.Sb.m0G root i 0) s:=by
 have h1:Inv s G (root::0::P):=h.perm fun x hx=>by rw[List.count_cons,List.count_cons,List.count_cons_of_ne (Ne.symm hx)]
 rcases h1.mset hi hroot (.inl rfl) hat hr (by omega)with ⟨r,s',G',e,i2,t2,k2,c2⟩|hf
 ·refine .inl ⟨r,s',G',e,i2,t2,k2,?_⟩;funext j;by_cases hj:j<512
  case neg=>unfold upd a0Z;rw[if_neg hj,if_neg hj,if_neg (by omega)]
  have hl:=c2 j hj;have hk:=k0I (i2.leafKid 2 k2 j);unfold upd a0Z;rw[if_pos hj,if_pos hj];rw[hl]at hk ⊢;by_cases e:j=i
  ·rw[if_pos e,if_pos e];unfold d0F;rw[i2.zero]
  ·rw[if_neg e]at hk ⊢;rw[if_neg e];exact h.leafSame t2.old i2.zero (h.leafKid 2 hroot j) hk
 ·exact .inr hf
theorem Inv.clears (C:Nat) (hC:g0H 2=C): ∀(ys:List (Nat×Int)) {s:St} {G:Gh} {root:Int},Inv s G (root::P)→Idx s G→a0W G 3 root→(∀y∈ys,y.1<512)→d0J (ys.length*C) s→P.length≤700000→(∀p∈P,a0W G 3 p)→
 (∃r s' G',s0G (fun r (x:Nat×Int)=>Go.Sb.m0G r x.1 0) root ys s=(.ok r,s')∧Inv s' G' (r::P)∧Stp (ys.length*C) (ys.length*3) s G s' G'∧a0W G' 3 r∧(∀p∈P,a0W G' 3 p∧a0Z G' p=a0Z G p)∧
  a0Z G' r=fun j=>if j∈ys.map (·.1)then a0L 256 else a0Z G root j)∨Fl (ys.length*3) False (s0G (fun r (x:Nat×Int)=>Go.Sb.m0G r x.1 0) root ys) s
 | [],s,G,root,h,hi,hr,_,_,_,hP=> .inl ⟨root,s,G,rfl,h,(Stp.refl h hi).mono (by omega) (by omega),hr,fun p hp=>⟨hP p hp,rfl⟩,by funext j;simp⟩
 |y::ys,s,G,root,h,hi,hr,hy,hro,hPl,hP=>by
  have hro':d0J (C+ys.length*C) s:=hro.le (by rw[List.length_cons,Nat.succ_mul];omega);have e0:s0G (fun r (x:Nat×Int)=>Go.Sb.m0G r x.1 0) root (y::ys)=a0B (Go.Sb.m0G root y.1 0) fun r=>s0G (fun r (x:Nat×Int)=>Go.Sb.m0G r x.1 0) r ys:=rfl;rw[e0];rcases h.msetMap hi hr (hy y List.mem_cons_self) (by rw[hC];exact hro'.le (by omega)) hPl with ⟨r,s1,G1,e1,i1,t1,k1,m1⟩|hf
  ·rw[hC]at t1;have hP2: ∀p∈P,a0W G1 3 p∧a0Z G1 p=a0Z G p:=fun p hp=>by
    have hl:p=0∨(a0C p G1).isSome=true:=if h0:p=0 then .inl h0 else .inr (i1.pend (List.mem_cons_of_mem _ hp) h0)
    exact⟨h.kidSame t1.old (hP p hp) hl,h.mapKeep i1 t1.old (hP p hp) hl⟩
   rcases Inv.clears C hC ys i1 t1.idx k1 (fun z hz=>hy z (List.mem_cons_of_mem _ hz)) (hro'.go t1.rel) hPl (fun p hp=>(hP2 p hp).1)with ⟨r2,s2,G2,e2,i2,t2,k2,p2,m2⟩|hf
   ·refine .inl ⟨r2,s2,G2,by rw[a0A e1,e2],i2,(t1.trans t2).mono (by rw[List.length_cons,Nat.succ_mul];omega) (by rw[List.length_cons,Nat.succ_mul];omega),k2,fun p hp=>⟨(p2 p hp).1,(p2 p hp).2.trans (hP2 p hp).2⟩,?_⟩;rw[m2,m1];funext j;unfold upd;by_cases h1:j∈ys.map (·.1)
    ·rw[if_pos h1,if_pos (by rw[List.map_cons];exact List.mem_cons_of_mem _ h1)]
    ·rw[if_neg h1];by_cases h2:j=y.1
     ·rw[if_pos h2,if_pos (by rw[List.map_cons,h2];exact List.mem_cons_self)]
     ·rw[if_neg h2,if_neg (by rw[List.map_cons];intro h3;rcases List.mem_cons.1 h3 with h3|h3;(· exact h2 h3);(· exact h1 h3))]
   ·exact .inr (Fl.there e1 t1.rel t1.keep hf (by rw[List.length_cons,Nat.succ_mul];omega) id)
  ·exact .inr (hf.here (by rw[List.length_cons,Nat.succ_mul];omega) False.elim)
theorem Inv.clearA {root:Int} {a b:Nat} (h:Inv s G (root::P)) (hi:Idx s G) (hr:a0W G 3 root) (hro:d0J ((clL G root a b).length*g0H 2) s) (hPl:P.length≤700000) (hP: ∀p∈P,a0W G 3 p):
 (∃r s' G',Go.Sb.k0M root a b s=(.ok r,s')∧Inv s' G' (r::P)∧Stp ((clL G root a b).length*g0H 2) ((clL G root a b).length*3) s G s' G'∧a0W G' 3 r∧(∀p∈P,a0W G' 3 p∧a0Z G' p=a0Z G p)∧
  a0Z G' r=e1Q (a0Z G root) a b)∨Fl ((clL G root a b).length*3) False (Go.Sb.k0M root a b) s:=by
 have e0:Go.Sb.k0M root a b s=s0G (fun r (x:Nat×Int)=>Go.Sb.m0G r x.1 0) root (clL G root a b) s:=a0A (h.leavesA hr a b);have hm:=fun j=>h.clL_mem hr a b j;rcases Inv.clears (g0H 2) rfl (clL G root a b) h hi hr (fun y hy=>((hm y.1).1 (List.mem_map.2 ⟨y,hy,rfl⟩)).2.2.1) hro hPl hP with ⟨r,s',G',e,i2,t2,k2,p2,m2⟩| ⟨e,s',h1,h2⟩
 ·refine .inl ⟨r,s',G',by rw[e0,e],i2,t2,k2,p2,?_⟩;rw[m2];funext j;unfold e1Q;by_cases h1:j∈(clL G root a b).map (·.1)
  ·have:=(hm j).1 h1;rw[if_pos h1,if_pos ⟨this.1,this.2.1⟩]
  ·rw[if_neg h1];by_cases h2:a≤j∧j<b
   ·rw[if_pos h2];by_cases hj:j<512
    ·have hz:c0P G 2 root j=0:=Classical.byContradiction fun hz=>h1 ((hm j).2 ⟨h2.1,h2.2,hj,hz⟩);unfold a0Z d0F;rw[if_pos hj,hz,h.zero]
    ·unfold a0Z;rw[if_neg hj]
   ·rw[if_neg h2]
 ·exact .inr ⟨e,s',by rw[e0,h1],h2⟩
theorem Inv.clL_len (h:Inv s G P) {root:Int} (hr:a0W G 3 root) {a b:Nat} {m:List Lf} (hm:l0K m (a0Z G root)):(clL G root a b).length≤m.length:=by
 have hn:=h.clL_nodup hr a b;have hsub:((clL G root a b).map (·.1)).map (fun j:Nat=>(j:Int)) ⊆ m.map (·.1):=fun x hx=>by
  obtain⟨j,hj,rfl⟩:=List.mem_map.1 hx;obtain⟨_,_,hj5,hne⟩:=(h.clL_mem hr a b j).1 hj;rcases p0M (j:Int) m with h1|h1
  ·exfalso;have h2:=hm.eq j;rw[h1]at h2;rcases h.leafKid 2 hr j with h0| ⟨d,ats,ho⟩
   ·exact hne h0
   ·unfold a0Z d0F at h2;rw[if_pos hj5,ho]at h2;have h3:=(h.typ _ _ ho).2.1;simp only at h2;rw[h2,d0N]at h3;cases h3
  ·exact List.mem_map.2 ⟨_,h1,rfl⟩
 have hnd:(((clL G root a b).map (·.1)).map (fun j:Nat=>(j:Int))).Nodup:=List.pairwise_map.2 (hn.imp fun hne=>by omega);have:=u1H hnd hsub;simpa using this
end
end
section
theorem g0J (n:Nat):(a0L n).length=n:=by simp[a0L]
section
variable {s:St} {G:Gh} {P:List Int}
theorem Inv.patchZ (Cp:Nat) (hp:16+g0H 2=Cp) {x:Ent} {at_ q m:Nat} (h:Inv s G (x.root::P)) (hi:Idx s G) (hr:a0W G 3 x.root) (hP: ∀p∈P,a0W G 3 p) (hq:q≤m) (hat:at_+q≤2048) (hro:d0J (m*Cp) s) (hPl:P.length≤1000):
 (∃r s' G',e0T x at_ (a0L (q*64)) s=(.ok {x with root:=r},s')∧Inv s' G' (r::P)∧Stp (m*Cp) (m*8) s G s' G'∧a0W G' 3 r∧(∀p∈P,a0W G' 3 p∧a0Z G' p=a0Z G p)∧
  a0Z G' r=k0J (q*64) (a0Z G x.root) at_ (a0L (q*64))∧ ¬j0N s.bits (P.map (a0Z G)) (q*64) (a0Z G x.root) at_ (a0L (q*64)))∨
 Fl (m*8) (j0N s.bits (P.map (a0Z G)) (q*64) (a0Z G x.root) at_ (a0L (q*64))) (e0T x at_ (a0L (q*64))) s:=by
 have:=Inv.patch Cp hp (q*64) m (x:=x) (at_:=at_) (data:=a0L (q*64)) h hi hr hP (by rw[g0J];omega) (by rw[g0J];omega) (by rw[g0J];omega) hro hPl;unfold e0T;rw[g0J];exact this
theorem Inv.cclear (Cp C:Nat) (hp:16+g0H 2=Cp) (hc:g0H 2=C) {x:Ent} {fr u L:Nat} (h:Inv s G (x.root::P)) (hi:Idx s G) (hr:a0W G 3 x.root) (hP: ∀p∈P,a0W G 3 p) (hfu:fr≤u) (hu:u≤2048) (hro:d0J (6*Cp+L*C) s) (hPl:P.length≤1000)
 (hL: ¬u/4≤(fr+3)/4→ ¬j0N s.bits (P.map (a0Z G)) ((4*((fr+3)/4)-fr)*64) (a0Z G x.root) fr (a0L ((4*((fr+3)/4)-fr)*64))→
  ∃m',l0K m' (k0J ((4*((fr+3)/4)-fr)*64) (a0Z G x.root) fr (a0L ((4*((fr+3)/4)-fr)*64)))∧m'.length≤L):
 (∃r s' G',i0C x fr u s=(.ok {x with root:=r},s')∧Inv s' G' (r::P)∧Stp (6*Cp+L*C) (48+L*3) s G s' G'∧a0W G' 3 r∧(∀p∈P,a0W G' 3 p∧a0Z G' p=a0Z G p)∧
  a0Z G' r=y0C (a0Z G x.root) fr u∧ ¬s0S s.bits (P.map (a0Z G)) (a0Z G x.root) fr u)∨
 Fl (48+L*3) (s0S s.bits (P.map (a0Z G)) (a0Z G x.root) fr u) (i0C x fr u) s:=by
 unfold i0C y0C s0S;rw[if_neg (show ¬5000<u by omega)];by_cases hs:u/4≤(fr+3)/4
 ·rw[if_pos hs,if_pos hs,if_pos hs];rcases h.patchZ Cp hp (at_:=fr) (q:=u-fr) (m:=6) hi hr hP (by omega) (by omega) (hro.le (by omega)) hPl with ⟨r,s',G',e,i,t,k,p,m,n⟩|hf
  ·exact .inl ⟨r,s',G',e,i,t.mono (by omega) (by omega),k,p,m,n⟩
  ·exact .inr (hf.mono (by omega) id)
 ·rw[if_neg hs,if_neg hs,if_neg hs];have hL:=hL hs;rw[show(fr+3)/4*4=4*((fr+3)/4)from Nat.mul_comm _ _,show u/4*4=4*(u/4)from Nat.mul_comm _ _];obtain⟨a,ha⟩: ∃a,a=(fr+3)/4:=⟨_,rfl⟩;obtain⟨b,hb⟩: ∃b,b=u/4:=⟨_,rfl⟩;rw[←ha]at hs hL ⊢;rw[←hb]at hs ⊢;rcases h.patchZ Cp hp (at_:=fr) (q:=4*a-fr) (m:=3) hi hr hP (by omega) (by omega) (hro.le (by omega)) hPl with ⟨r1,s1,G1,e1,i1,t1,k1,p1,m1,n1⟩|hf
  ·obtain⟨m',hm',hml⟩:=hL n1;rw[←m1]at hm';have hcl:=i1.clL_len k1 (a:=a) (b:=b) hm';have hcc:(clL G1 r1 a b).length*C≤L*C:=Nat.mul_le_mul_right _ (by omega);have hro1:d0J (L*C+3*Cp) s1:=(hro.le (by omega:3*Cp+(L*C+3*Cp)≤_)).go t1.rel;have hmap1:P.map (a0Z G1)=P.map (a0Z G):=List.map_congr_left fun p hp=>(p1 p hp).2;rcases i1.clearA (a:=a) (b:=b) t1.idx k1 (by rw[hc];exact hro1.le (by omega)) (by omega) (fun p hp=>(p1 p hp).1)with ⟨r2,s2,G2,e2,i2,t2,k2,p2,m2⟩|hf
   ·rw[hc]at t2;have t12:=t1.trans t2;have hro2:d0J (3*Cp) s2:=(hro1.le (by omega:(clL G1 r1 a b).length*C+3*Cp≤_)).go t2.rel;have hmap2:P.map (a0Z G2)=P.map (a0Z G):=List.map_congr_left fun p hp=>((p2 p hp).2.trans (p1 p hp).2);have hz:=i2.patchZ Cp hp (x:= {x with root:=r2}) (at_:=4*b) (q:=u-4*b) (m:=3) t2.idx k2 (fun p hp=>(p2 p hp).1) (by omega) (by omega) hro2 hPl;rw[hmap2,show s2.bits=s.bits from t12.rel.bits]at hz;simp only at hz;rw[m2,m1]at hz;have ee:(a0B (e0T x fr (a0L ((4*a-fr)*64))) fun y=>a0B (Go.Sb.k0M y.root a b) fun r=>e0T {y with root:=r} (4*b) (a0L ((u-4*b)*64))) s=e0T {x with root:=r2} (4*b) (a0L ((u-4*b)*64)) s2:=by
     rw[a0A e1];exact a0A e2
    rcases hz with ⟨r3,s3,G3,e3,i3,t3,k3,p3,m3,n3⟩| ⟨e,s3,h1,h2⟩
    ·refine .inl ⟨r3,s3,G3,by rw[ee,e3],i3,(t12.trans t3).mono (by omega) (by omega),k3,fun p hp=>⟨(p3 p hp).1,(p3 p hp).2.trans ((p2 p hp).2.trans (p1 p hp).2)⟩,m3,?_⟩;rintro(h1|h1)
     ·exact n1 h1
     ·exact n3 h1
    ·refine .inr ⟨e,s3,by rw[ee,h1],h2.imp (fun⟨q1,q2⟩=>⟨q1,?_⟩) (fun⟨q1,q2⟩=>⟨q1,.inr q2⟩)⟩;have h3:=t12.rel.room;have h4:s2.keep=s.keep:=t12.keep;rw[h4]at q2;omega
   ·have ee:(a0B (e0T x fr (a0L ((4*a-fr)*64))) fun y=>a0B (Go.Sb.k0M y.root a b) fun r=>e0T {y with root:=r} (4*b) (a0L ((u-4*b)*64))) s=(a0B (Go.Sb.k0M r1 a b) fun r=>e0T {x with root:=r} (4*b) (a0L ((u-4*b)*64))) s1:=a0A e1;obtain⟨e,s3,h1,h2⟩:=hf;refine .inr ⟨e,s3,by rw[ee];exact a0F h1,?_⟩;rcases h2 with ⟨q1,q2⟩| ⟨_,q2⟩
    ·refine .inl ⟨q1,?_⟩;have h3:=t1.rel.room;have h4:=t1.keep;rw[h4]at q2;omega
    ·exact q2.elim
  ·exact .inr (hf.here (by omega) fun h=> .inl h)
end
theorem l0K.clear {m:List Lf} {f:Nat→B} (h:l0K m f) (a b:Nat):l0K (h0G m a b) (e1Q f a b):=
 ⟨h.ok.clear _ _,fun x hx=>h.nz x (List.mem_filter.1 hx).1,fun j=>by
  unfold e1Q;rw[h1T];by_cases e:a≤j∧j<b
  ·rw[if_pos e,if_pos (by omega)]
  ·rw[if_neg e,if_neg (by omega),h.eq]⟩
theorem p0N.sub {f f':Nat→B} {Os:List (Nat→B)} {bits:Nat} (h:p0N (f::Os) bits) (hs: ∀j,a0R (f' j)=false→f' j=f j):p0N (f'::Os) bits:=by
 have key1: ∀g∈f'::Os,∀j,a0R (g j)=false→ ∃g'∈f::Os,g j=g' j:=fun g hg j hz=>by
  rcases List.mem_cons.1 hg with rfl|hg
  ·exact⟨f,List.mem_cons_self,hs j hz⟩
  ·exact⟨g,List.mem_cons_of_mem _ hg,rfl⟩
 intro m1 h1 m2 h2 i j z1 z2 hk;obtain⟨g1,hg1,e1⟩:=key1 m1 h1 i z1;obtain⟨g2,hg2,e2⟩:=key1 m2 h2 j z2;rw[e1]at hk z1 ⊢;rw[e2]at hk z2 ⊢;exact h g1 hg1 g2 hg2 i j z1 z2 hk
theorem e2P (m:List Lf) (a b:Int):(h0G m a b).length≤m.length:=List.length_filter_le _ _
theorem w0N (n:Nat):a0R (a0L n)=true:=d0N n
theorem u1I {i:Nat} {c:Rp} {f:Nat→B} {Os:List (Nat→B)} {fr u:Nat} (hi:i<c.l.length) (ho:r0N c i Os) (hf:l0K (c.l.getD i v0).m f) (hq:p0N (f::Os) c.bits) (hfu:fr≤u) (hu:u≤2048):
 (s0S c.bits Os f fr u∧(e0A c i fr u).2=9)∨
 (¬s0S c.bits Os f fr u∧ ∃m',e0A c i fr u=(d0K c i m',0)∧l0K m' (y0C f fr u)∧p0N (y0C f fr u::Os) c.bits∧m'.length≤(c.l.getD i v0).m.length):=by
 unfold s0S y0C e0A;simp only;by_cases hs:u/4≤(fr+3)/4
 ·rw[if_pos hs,if_pos hs,if_pos hs];rcases r0P i ((u-fr)*64) c f Os fr (a0L ((u-fr)*64)) hi ho hf hq (by rw[g0J];omega) (by rw[g0J];omega) (by rw[g0J];exact Nat.le_refl _)with h| ⟨h1,m',h2,h3,h4,_,h5⟩
  ·exact .inl h
  ·exact .inr ⟨h1,m',h2,h3,h4,h5 (w0N _)⟩
 ·rw[if_neg hs,if_neg hs,if_neg hs];obtain⟨a,ha⟩: ∃a,a=(fr+3)/4:=⟨_,rfl⟩;obtain⟨b,hb⟩: ∃b,b=u/4:=⟨_,rfl⟩;rw[←ha,←hb]at hs ⊢;rcases r0P i ((4*a-fr)*64) c f Os fr (a0L ((4*a-fr)*64)) hi ho hf hq (by rw[g0J];omega) (by rw[g0J];omega) (by rw[g0J];exact Nat.le_refl _)with ⟨h1,h2⟩| ⟨h1,m1,h2,h3,h4,_,h5⟩
  ·exact .inl ⟨.inl h1,by rw[if_pos (by rw[h2];decide)];exact h2⟩
  ·rw[h2];simp only;rw[if_neg (by decide)];have h5:=h5 (w0N _);have hx1:=y0A (m:=m1) hi;rw[hx1];simp only;rw[q0B hi];have hm:=h3.clear a b;have huq:p0N (e1Q (k0J ((4*a-fr)*64) f fr (a0L ((4*a-fr)*64))) a b::Os) c.bits:=h4.sub fun j hz=>by
    unfold e1Q at hz ⊢;split
    ·rename_i e;rw[if_pos e,d0N]at hz;cases hz
    ·rfl
   have hx2:=y0A (m:=h0G m1 a b) hi;have hl2:=q0V c i (h0G m1 a b);have hr:=r0P i ((u-4*b)*64) (d0K c i (h0G m1 a b)) _ Os (4*b) (a0L ((u-4*b)*64)) (by rw[hl2];exact hi) (ho.with_ _) (by rw[hx2];exact hm) huq (by rw[g0J];omega) (by rw[g0J];omega) (by rw[g0J];exact Nat.le_refl _);rw[show(d0K c i (h0G m1 a b)).bits=c.bits from rfl,hx2]at hr;rcases hr with ⟨g1,g2⟩| ⟨g1,m2,g2,g3,g4,_,g5⟩
   ·exact .inl ⟨.inr g1,by rw[if_pos (by rw[g2];decide)];exact g2⟩
   ·refine .inr ⟨fun h=>h.elim h1 g1,m2,?_,g3,g4,?_⟩
    ·rw[g2];simp only;rw[if_neg (by decide),q0B hi]
    ·have:=g5 (w0N _);have:=e2P m1 a b;simp only at*;omega
end
section
def UMe {α:Type} (m:M α):Prop:= ∀s,0<s.depth→UOK s→(m s).1≠ .big→ ∃c k,Rel c k s (m s).2
section
variable {α β:Type}
theorem UM.ex {c k:Nat} {m:M α} (h:UM c k m):UMe m:=fun s hd hs hb=>⟨c,k,h s hd hs hb⟩
theorem j0F {m:M α} {f:α→M β} (h:UMe m) (hf: ∀a,UMe (f a)):UMe (a0B m f):=fun s hd hs hb=>by
 obtain⟨c,k,h1⟩:=h s hd hs (c0I hb);cases e:m s with
 |mk o t=>
  rw[e]at h1;cases o with
  |ok a=>have h2:=p0H hb e;rw[a0A e];obtain⟨c',k',h3⟩:=hf a t (by rw[h1.depth];exact hd) h1.ok h2;exact⟨_,_,h1.trans h3⟩
  |err e'=>rw[a0F e];exact⟨c,k,h1⟩
  |big=>exact(c0I hb (by rw[e])).elim
theorem e1R {p:Prop} [Decidable p] {m n:M α} (h:UMe m) (j:UMe n):UMe (if p then m else n):=by split<;>assumption
theorem b2Q:UMe (fun s=>(.big,s):M α):=fun s _ _ hb=>(hb rfl).elim
theorem u1J (e:Int):UMe (n0L e:M α):=(x0F e).ex
theorem u2G (a:α):UMe (ret a:M α):=(d0D a).ex
theorem z0E (x:Ent) (at_:Nat) {data:B} (h:data.length%64=0):UMe (e0T x at_ data):=(t1M data.length x at_ data (data.length/64) (by omega) h).ex
theorem e2Q (root:Int) (a b:Nat):UMe (m0B root a b):=fun s _ hs hb=>by
 unfold m0B at hb ⊢;split
 ·exact⟨0,0,Rel.refl hs⟩
 ·exact⟨0,0,Rel.refl hs⟩
theorem j2R (root:Int) (a b:Nat):UMe (k0M root a b):=j0F (e2Q root a b) fun l=>(a2X (fun r (x:Nat×Int)=>b2B r x.1 0) l root).ex
theorem l1M (x:Ent) (fr u:Nat):UMe (i0C x fr u):=by
 unfold i0C;refine e1R b2Q (e1R (z0E _ _ (by rw[g0J];omega)) (j0F (z0E _ _ (by rw[g0J];omega)) fun y=>j0F (j2R _ _ _) fun r=>z0E _ _ (by rw[g0J];omega)))
theorem c1E (x:Ent) (a n:Int):UMe (h0J x a n):=e1R b2Q (j2G x a n).ex
theorem s0T (id at_:Int) (data:B):UMe (i0X id at_ data):=j0F (j1E id).ex fun x=>by
 by_cases h:data.length%64≠0
 ·rw[if_pos h];exact u1J 4
 ·rw[if_neg h];exact j0F (c1E _ _ _) fun _=>j0F (z0E _ _ (by omega)) fun y=>(x0G y).ex
theorem c1F (id at_ n:Int):UMe (r0Q id at_ n):=j0F (j1E id).ex fun x=>j0F (c1E _ _ _) fun _=>j0F (l1M _ _ _) fun y=>(x0G y).ex
theorem w0O (id size:Int):UMe (m0C id size):=j0F (j1E id).ex fun x=>e1R (u1J 4) (j0F (e1R (l1M _ _ _) (u2G _)) fun y=>(x0G _).ex)
theorem e2R (id:Int):UMe (q0C id):=j0F (o1E id).ex fun x=>j0F (h1P id).ex fun _=>(j1C x.root 2).ex
theorem u1K (id at_ n:Int):UMe (o0S id at_ n):=j0F (o1E id).ex fun x=>j0F (c1E _ _ _) fun _=>by
 have: ∀(k:Nat) (y:Ent) (a m:Nat),UM 0 0 (k0D k y a m):=fun k=>by
  induction k with
  |zero=>intro y a m;exact d0D _
  |succ k ih=>intro y a m;unfold k0D;exact l0R (d0D _) (c0J (b2C _ _) fun b=>c0J (ih _ _ _) fun r=>d0D _)
 exact(this _ _ _ _).ex
end
structure l1N (s s':St) (G:Gh):Prop where
 ci:CI s' G
 perm:s'.vols.Perm s.vols
 vols:meq s'.vols s.vols
 bits:s'.bits=s.bits
 next:s'.next=s.next
 epoch:s'.epoch=s.epoch
 room:a0Y s≤a0Y s'
section
variable {s:St} {G:Gh}
theorem CI.still (h:CI s G):l1N s s G:=⟨h,List.Perm.refl _,fun _=>rfl,rfl,rfl,rfl,Nat.le_refl _⟩
theorem CI.failed {α:Type} {m:M α} {er:Int} {t:St} (h:CI s G) (hu:UMe m) (e:m (Go.Sb.start s 0)=(.err er,t)) (her:er≠0):
 ∃s',i0K (Go.Sb.e0M 0 m) s=(.ok (er,.lost),s')∧l1N s s' G:=by
 obtain⟨i1,_⟩:=h.start 0;obtain⟨c,k,r⟩:=hu (Go.Sb.start s 0) Nat.zero_lt_one i1.u (by rw[e];simp);rw[e]at r;have e0:Go.Sb.e0M 0 m {s with depth:=1} =(.err er,t):=by rw[h.roomC (.inl rfl)];exact e
 have r3:=(h.rel 0).trans r;obtain⟨u1,u2,u3,u4,u5,u6,u7⟩:=h.undone r3;exact⟨_,c1A h e0 her r3,u1,u2,u3,u4,u5,u6,u7⟩
theorem CI.failed0 {α:Type} {m:M α} {er:Int} {t:St} (h:CI s G) (hu:UMe m) (e:m {s with depth:=1} =(.err er,t)) (her:er≠0): ∃s',i0K m s=(.ok (er,.lost),s')∧l1N s s' G:=by
 obtain⟨c,k,r⟩:=hu {s with depth:=1} Nat.zero_lt_one h.deep.u (by rw[e];simp);rw[e]at r;obtain⟨u1,u2,u3,u4,u5,u6,u7⟩:=h.undone r;exact⟨_,c1A h e her r,u1,u2,u3,u4,u5,u6,u7⟩
theorem CI.mem (h:CI s G) {id:Int} {x:Ent} (hx:a0C id s.vols=some x):(id,x)∈s.vols:=(e0D h.inv.u.m.vols).1 hx
def l0L (s:St) (id:Int):List Int:=(b0D id s.vols).map (·.2.root)
theorem CI.roots (h:CI s G) {id:Int} {x:Ent} (hx:a0C id s.vols=some x):Inv (Go.Sb.start s 0) G (x.root::l0L s id):=by
 obtain⟨i1,_⟩:=h.start 0;exact i1.perm fun y _=>(((p0D hx).map (fun p:Int×Ent=>p.2.root)).count_eq y)
theorem CI.othersKid (h:CI s G) (id:Int): ∀p∈l0L s id,a0W G 3 p:=fun p hp=>by
 obtain⟨q,hq,rfl⟩:=List.mem_map.1 hp;exact h.kid _ (n0Z hq)
theorem CI.othersLen (h:CI s G) {id:Int} {x:Ent} (hx:a0C id s.vols=some x):(l0L s id).length≤16:=by
 have h1:=(p0D hx).length_eq;simp only[List.length_cons]at h1;have:=h.few;unfold l0L;rw[List.length_map];omega
theorem l1O (s:St) (G:Gh) (id:Int):(l0L s id).map (a0Z G)=o0A s G id:=by unfold l0L;rw[List.map_map];rfl
theorem CI.edited {m:M Unit} {f:M Ent} {id:Int} {x y:Ent} {u:St} {G':Gh} {C K:Nat} (h:CI s G) (hx:a0C id s.vols=some x) (e0:m (Go.Sb.start s 0)=a0B f m0H (Go.Sb.start s 0)) (ef:f (Go.Sb.start s 0)=(.ok y,u)) (hyid:y.id=id) (hys:1≤y.size∧y.size≤2048)
 (i2:Inv u G' (y.root::l0L s id)) (t2:Stp C K (Go.Sb.start s 0) G u G') (k2:a0W G' 3 y.root) (k3: ∀p∈l0L s id,a0W G' 3 p∧a0Z G' p=a0Z G p) (hC:C≤900000000):
 ∃s',i0K (Go.Sb.e0M 0 m) s=(.ok (0,.done ()),s')∧CI s' G'∧s'.vols=b0O id y s.vols∧(∀p∈b0D id s.vols,a0Z G' p.2.root=a0Z G p.2.root)∧s'.next=s.next∧s'.epoch=s.epoch∧s'.bits=s.bits∧a0Y s≤a0Y s'+K∧a0Y u≤a0Y s':=by
 have hd:u.depth=1:=t2.rel.depth;have hlog:u.log.length<1000000000:=by have:=t2.rel.len;have h1:(Go.Sb.start s 0).log.length=1:=rfl;omega
 have hu:u.vols=s.vols:=t2.vols;have e2:Go.Sb.e0M 0 m {s with depth:=1} =(.ok (),o0B id y u):=by
  rw[h.roomC (.inl rfl),e0,a0A ef,x0I hlog,hyid]
 have r2:Rel 1 0 u (o0B id y u):=by
  have:=x0G y u (by omega) i2.u (by rw[x0I hlog];simp);rw[x0I hlog,hyid]at this;exact this
 have r3:=(h.rel 0).trans (t2.rel.trans r2);have e3:=q0U h e2 r3;have hvol:(o0B id y u).vols=b0O id y s.vols:=by show b0O _ _ u.vols=_;rw[hu]
 have hpp:=v0T (w:=y) hx;have i3:Inv (o0B id y u) G' (y.root::l0L s id):=i2.other rfl rfl rfl rfl rfl ⟨i2.u.m.refs,i2.u.m.young,i2.u.m.index,k0E _ _ i2.u.m.vols⟩ i2.u.keep;have i4:Inv (o0B id y u) G' (g0Q (o0B id y u)):=by
  unfold g0Q;rw[hvol];exact i3.perm fun z _=>by rw[(hpp.map (fun p:Int×Ent=>p.2.root)).count_eq z,List.map_cons];rfl
 have hmm: ∀p∈(o0B id y u).vols,p=(id,y)∨p∈b0D id s.vols:=fun p hp'=>by
  rw[hvol]at hp';exact List.mem_cons.1 (hpp.mem_iff.1 hp')
 refine⟨Go.Sb.fin (o0B id y u),e3,CI.fin i4 t2.idx (fun p hp'=> ?_) (fun p hp'=> ?_) ?_,hvol,fun p hp'=> ?_,t2.next,r3.epoch,r3.bits,?_⟩
 ·rcases hmm p hp' with rfl|hq
  ·exact k2
  ·exact(k3 _ (List.mem_map.2 ⟨p,hq,rfl⟩)).1
 ·rcases hmm p hp' with rfl|hq
  ·exact⟨hyid,hys⟩
  ·exact h.ids _ (n0Z hq)
 ·rw[hvol,hpp.length_eq];simp only[List.length_cons];have h1:=(p0D hx).length_eq;simp only[List.length_cons]at h1;have:=h.few;omega
 ·exact(k3 _ (List.mem_map.2 ⟨p,hp',rfl⟩)).2
 ·have h1:=r3.room;have h2:=x0Z i4;have h3:a0Y ({s with depth:=1} :St)=a0Y s:=rfl;have h4:=r2.room;omega
theorem CI.copened (_:CI s G) {id:Int} {x:Ent} (hx:a0C id s.vols=some x) (ho:x.only=false):l0Z id (Go.Sb.start s 0)=(.ok x,Go.Sb.start s 0):=by
 unfold l0Z;rw[a0A (show find id (Go.Sb.start s 0)=(.ok x,Go.Sb.start s 0) by unfold find;rw[show a0C id (Go.Sb.start s 0).vols=some x from hx])];rw[if_neg (by simp[ho])];rfl
theorem c1G {id:Int} (hx:a0C id s.vols=none):l0Z id (Go.Sb.start s 0)=(.err 5,Go.Sb.start s 0):=by
 unfold l0Z;exact a0F (show find id (Go.Sb.start s 0)=(.err 5,Go.Sb.start s 0) by unfold find;rw[show a0C id (Go.Sb.start s 0).vols=none from hx])
theorem c1H {id:Int} {x:Ent} (hx:a0C id s.vols=some x) (ho:x.only=true):l0Z id (Go.Sb.start s 0)=(.err 7,Go.Sb.start s 0):=by
 unfold l0Z;rw[a0A (show find id (Go.Sb.start s 0)=(.ok x,Go.Sb.start s 0) by unfold find;rw[show a0C id (Go.Sb.start s 0).vols=some x from hx])];rw[if_pos ho];rfl
theorem CI.deleted (h:CI s G) {id:Int} {x:Ent} (hx:a0C id s.vols=some x):
 ∃s' G',i0K (Go.Sb.e0M 0 (q0C id)) s=(.ok (0,.done ()),s')∧CI s' G'∧s'.vols=b0D id s.vols∧(∀p∈b0D id s.vols,a0Z G' p.2.root=a0Z G p.2.root)∧s'.next=s.next∧s'.epoch=s.epoch∧s'.bits=s.bits∧a0Y s≤a0Y s':=by
 obtain⟨i0,x0⟩:=h.start 0;have i1:=h.roots hx;have hmem:=h.mem hx;obtain⟨t1,ht1⟩: ∃t1:St,t1= {Go.Sb.start s 0 with log:=bk 1 [.keep s.keep] (.vols id (some x)),vols:=b0D id s.vols} :=⟨_,rfl⟩;have ed:o0H id (Go.Sb.start s 0)=(.ok (),t1):=by
  unfold o0H a0B back;simp only;rw[if_neg (by show ¬1000000000≤1;omega),ht1];simp only;rw[show a0C id (Go.Sb.start s 0).vols=some x from hx];rfl
 have r1:Rel 1 0 (Go.Sb.start s 0) t1:=by
  have:=h1P id (Go.Sb.start s 0) Nat.zero_lt_one i1.u (by rw[ed];simp);rw[ed]at this;exact this
 have i2:Inv t1 G (x.root::l0L s id):=by
  rw[ht1];exact i1.other rfl rfl rfl rfl rfl ⟨i1.u.m.refs,i1.u.m.young,i1.u.m.index,k0F _ h.inv.u.m.vols⟩ i1.u.keep
 have x2:Idx t1 G:=by rw[ht1];exact x0
 have hll:j0T 3≤11100:=by decide
 have hol:=h.othersLen hx;have hg0:(Go.Sb.start s 0).gone.length=0:=by show s.gone.length=0;rw[h.gone];rfl
 have hl0:(Go.Sb.start s 0).log.length=1:=rfl;have hro:d0J (j0T 3) t1:=⟨by rw[r1.depth];exact Nat.zero_lt_one,by have:=r1.len;omega,by have:=r1.gone;omega⟩;obtain⟨u,G',e3,i3,t3,sb⟩:=i2.rless 3 x2 (h.kid _ hmem) hro (by omega);have hf:find id (Go.Sb.start s 0)=(.ok x,Go.Sb.start s 0):=by unfold find;rw[show a0C id (Go.Sb.start s 0).vols=some x from hx]
 have e2:Go.Sb.e0M 0 (q0C id) {s with depth:=1} =(.ok (),u):=by
  rw[h.roomC (.inl rfl)];unfold q0C;rw[a0A hf,a0A ed];exact e3
 have r3:=(h.rel 0).trans (r1.trans t3.rel);have e4:=q0U h e2 r3;have hvol:u.vols=b0D id s.vols:=by rw[t3.vols,ht1]
 have i4:Inv u G' (g0Q u):=by unfold g0Q;rw[hvol];exact i3
 have keep: ∀p∈l0L s id,a0W G' 3 p∧a0Z G' p=a0Z G p:=fun p hp=>by
  have hl:p=0∨(a0C p G').isSome=true:=if h0:p=0 then .inl h0 else .inr (i3.pend hp h0)
  exact⟨i2.kidSame t3.old (h.othersKid id p hp) hl,i2.mapKeep i3 t3.old (h.othersKid id p hp) hl⟩
 refine⟨Go.Sb.fin u,G',e4,CI.fin i4 t3.idx (fun p hp=> ?_) (fun p hp=> ?_) ?_,hvol,fun p hp=> ?_,?_,r3.epoch,r3.bits,?_⟩
 ·rw[hvol]at hp;exact(keep _ (List.mem_map.2 ⟨p,hp,rfl⟩)).1
 ·rw[hvol]at hp;exact h.ids _ (n0Z hp)
 ·rw[hvol];have h1:=(p0D hx).length_eq;simp only[List.length_cons]at h1;have:=h.few;omega
 ·exact(keep _ (List.mem_map.2 ⟨p,hp,rfl⟩)).2
 ·show u.next=s.next;rw[t3.next,ht1];rfl
 ·have h1:=r3.room;have h2:=x0Z i4;have h3:a0Y ({s with depth:=1} :St)=a0Y s:=rfl;omega
end
end
section
structure u1L (G:Gh) (v:Vp) (x:Ent):Prop where
 parent:x.parent=v.parent
 only:x.only=v.only
 size:x.size=v.size
 born:x.born=v.born
 map:l0K v.m (a0Z G x.root)
structure J (s:St) (G:Gh) (P:Rp):Prop where
 ci:CI s G
 next:s.next=P.next
 pos:1≤P.next
 bits:s.bits=P.bits
 epoch:s.epoch=P.epoch
 len:s.vols.length=P.l.length
 ord:P.l.Pairwise fun a b=>a.id<b.id
 ids: ∀v∈P.l,1≤v.id∧v.id<P.next
 vol: ∀v∈P.l,∃x,a0C v.id s.vols=some x∧u1L G v x
 back: ∀p∈s.vols,∃v∈P.l,v.id=p.1
section
variable {s s':St} {G G':Gh} {P:Rp}
theorem i0Q {l:List Vp} {id:Int} {i:Nat} (h:c0Q l id=some i): ∃hi:i<l.length,l[i].id=id:=by
 unfold c0Q at h;rw[List.findIdx?_eq_some_iff_getElem]at h;exact⟨h.1,by simpa using h.2.1⟩
theorem j2S {l:List Vp} {id:Int} (h:c0Q l id=none): ∀v∈l,v.id≠id:=by
 unfold c0Q at h;rw[List.findIdx?_eq_none_iff]at h;exact fun v hv=>by simpa using h v hv
theorem e1S {l:List Vp} (h:l.Pairwise fun a b=>a.id<b.id) {i j:Nat} (hi:i<l.length) (hj:j<l.length) (hne:i≠j):l[i].id≠l[j].id:=by
 rcases Nat.lt_or_gt_of_ne hne with h1|h1
 ·have:=List.pairwise_iff_getElem.1 h i j hi hj h1;omega
 ·have:=List.pairwise_iff_getElem.1 h j i hj hi h1;omega
theorem J.found (h:J s G P) {id:Int} {i:Nat} (hf:c0Q P.l id=some i): ∃(_:i<P.l.length) (x:Ent),(P.l.getD i v0).id=id∧a0C id s.vols=some x∧u1L G (P.l.getD i v0) x:=by
 obtain⟨hi,he⟩:=i0Q hf;obtain⟨x,hx,hr⟩:=h.vol _ (List.getElem_mem hi);rw[r0O hi];exact⟨hi,x,he,by rw[←he];exact hx,hr⟩
theorem J.missing (h:J s G P) {id:Int} (hf:c0Q P.l id=none):a0C id s.vols=none:=by
 cases e:a0C id s.vols with
 |none=>rfl
 |some x=>
  obtain⟨v,hv,he⟩:=h.back _ (h.ci.mem e);exact(j2S hf v hv he).elim
theorem J.others (h:J s G P) {id:Int} {i:Nat} (hi:i<P.l.length) (he:(P.l.getD i v0).id=id):r0N P i (o0A s G id):=by
 have hm:=h.ci.inv.u.m.vols;rw[r0O hi]at he;refine⟨fun k hk hne=> ?_,fun f hf=> ?_⟩
 ·obtain⟨x,hx,hr⟩:=h.vol _ (List.getElem_mem hk);have hid:P.l[k].id≠id:=by rw[←he];exact e1S h.ord hk hi hne
  rw[r0O hk];refine⟨a0Z G x.root,List.mem_map.2 ⟨(P.l[k].id,x),?_,rfl⟩,hr.map⟩;rw[←e0D (k0F id hm),c0L id _ hm,if_neg (Ne.symm hid)];exact hx
 ·obtain⟨⟨j,x⟩,hp,rfl⟩:=List.mem_map.1 hf;have h1:=(e0D (k0F id hm)).2 hp;rw[c0L id _ hm]at h1;split at h1
  ·cases h1
  ·rename_i hne;obtain⟨v,hv,hj⟩:=h.back _ ((e0D hm).1 h1);obtain⟨k,hk,rfl⟩:=List.mem_iff_getElem.1 hv;simp only at hj;obtain⟨y,hy,hr⟩:=h.vol _ (List.getElem_mem hk);rw[hj,h1]at hy;cases hy
   refine⟨k,hk,fun e=> ?_,by rw[r0O hk];exact hr.map⟩;subst e;exact hne (he.symm.trans hj)
theorem CI.uniq (h:CI s G) {Ms:List (Nat→B)} (hM: ∀f∈Ms,∃r,a0W G 3 r∧f=a0Z G r):p0N Ms s.bits:=by
 have leaf: ∀f∈Ms,∀j,a0R (f j)=false→ ∃a ats,a0C a G=some (.ext (f j) ats):=fun f hf j hz=>by
  obtain⟨r,hr,rfl⟩:=hM f hf;by_cases hj:j<512
  case neg=>unfold a0Z at hz;rw[if_neg hj,d0N]at hz;cases hz
  rcases h.inv.leafKid 2 hr j with h0| ⟨d,ats,ho⟩
  ·unfold a0Z d0F at hz;rw[if_pos hj,h0,h.inv.zero]at hz;simp[d0N]at hz
  ·exact⟨_,ats,by rw[ho];unfold a0Z d0F;rw[if_pos hj,ho]⟩
 intro m1 h1 m2 h2 i j z1 z2 hk;obtain⟨a1,t1,e1⟩:=leaf m1 h1 i z1;obtain⟨a2,t2,e2⟩:=leaf m2 h2 j z2;have g1:=(h.idx (key s.bits (Sha.sum (m1 i))) a1).2 ⟨_,_,e1,rfl⟩;have g2:=(h.idx (key s.bits (Sha.sum (m1 i))) a2).2 ⟨_,_,e2,hk⟩;rw[g1]at g2;cases g2
 rw[e1]at e2;simp only[Option.some.injEq,Ob.ext.injEq]at e2;exact e2.1
theorem J.uniq (h:J s G P) {id:Int} {x:Ent} (hx:a0C id s.vols=some x):p0N (a0Z G x.root::o0A s G id) P.bits:=by
 rw[←h.bits];refine h.ci.uniq fun f hf=> ?_;rcases List.mem_cons.1 hf with rfl|hf
 ·exact⟨x.root,h.ci.kid _ (h.ci.mem hx),rfl⟩
 ·obtain⟨p,hp,rfl⟩:=List.mem_map.1 hf;exact⟨_,h.ci.kid _ (n0Z hp),rfl⟩
theorem J.still (h:J s G P) (t:l1N s s' G):J s' G P:=
 ⟨t.ci,t.next.trans h.next,h.pos,t.bits.trans h.bits,t.epoch.trans h.epoch,t.perm.length_eq.trans h.len,h.ord,h.ids,fun v hv=>by obtain⟨x,hx,hr⟩:=h.vol v hv;exact⟨x,(t.vols v.id).trans hx,hr⟩,fun p hp=>h.back p (t.perm.mem_iff.1 hp)⟩
theorem J.few (h:J s G P):P.l.length≤16:=h.len▸h.ci.few
theorem J.set (h:J s G P) {id:Int} {i:Nat} {x y:Ent} {v:Vp} (hi:i<P.l.length) (he:(P.l.getD i v0).id=id) (hx:a0C id s.vols=some x) (c:CI s' G') (hv:s'.vols=b0O id y s.vols) (ho: ∀p∈b0D id s.vols,a0Z G' p.2.root=a0Z G p.2.root)
 (h1:s'.next=s.next) (h2:s'.epoch=s.epoch) (h3:s'.bits=s.bits) (hvid:v.id=id) (hr:u1L G' v y):J s' G' {P with l:=P.l.set i v} :=by
 have hm:=h.ci.inv.u.m.vols;rw[r0O hi]at he;have hids:(P.l.set i v).map (·.id)=P.l.map (·.id):=by
  rw[List.map_set,hvid];have e:(P.l.map (·.id))[i]'(by simpa using hi)=id:=by simpa using he
  rw[←e];exact List.set_getElem_self _
 have hvo: ∀w∈P.l.set i v,w=v∨(w∈P.l∧w.id≠id):=fun w hw=>by
  obtain⟨k,hk,rfl⟩:=List.mem_iff_getElem.1 hw;have hk':k<P.l.length:=by simpa using hk
  rw[List.getElem_set];split
  ·exact .inl rfl
  ·rename_i hne;exact .inr ⟨List.getElem_mem hk',by rw[←he];exact e1S h.ord hk' hi (Ne.symm hne)⟩
 refine⟨c,h1.trans h.next,h.pos,h3.trans h.bits,h2.trans h.epoch,?_,?_,fun w hw=> ?_,fun w hw=> ?_,fun p hp=> ?_⟩
 ·rw[hv,(v0T hx).length_eq,List.length_set,←h.len,(p0D hx).length_eq];rfl
 ·have h4:(P.l.map (·.id)).Pairwise (· < ·):=List.pairwise_map.2 h.ord;rw[←hids]at h4;exact List.pairwise_map.1 h4
 ·rcases hvo w hw with rfl| ⟨hw,_⟩
  ·rw[hvid,←he];exact h.ids _ (List.getElem_mem hi)
  ·exact h.ids w hw
 ·rw[hv];rcases hvo w hw with rfl| ⟨hw,hne⟩
  ·exact⟨y,by rw[f0N,if_pos hvid.symm],hr⟩
  ·obtain⟨z,hz,hzr⟩:=h.vol w hw;refine⟨z,by rw[f0N,if_neg (Ne.symm hne)];exact hz,hzr.parent,hzr.only,hzr.size,hzr.born,?_⟩;have hp:(w.id,z)∈b0D id s.vols:=by rw[←e0D (k0F id hm),c0L id _ hm,if_neg (Ne.symm hne)];exact hz
   rw[ho _ hp];exact hzr.map
 ·rw[hv]at hp;have: ∃w∈P.l,w.id=p.1:=by
   rcases List.mem_cons.1 ((v0T hx).mem_iff.1 hp)with rfl|hq
   ·exact⟨_,List.getElem_mem hi,he⟩
   ·exact h.back p (n0Z hq)
  obtain⟨w,hw,e⟩:=this;have:w.id∈(P.l.set i v).map (·.id):=by rw[hids];exact List.mem_map.2 ⟨w,hw,rfl⟩
  obtain⟨w',hw',e'⟩:=List.mem_map.1 this;exact⟨w',hw',e'.trans e⟩
theorem J.del (h:J s G P) {id:Int} {i:Nat} {x:Ent} (hi:i<P.l.length) (he:(P.l.getD i v0).id=id) (hx:a0C id s.vols=some x) (c:CI s' G') (hv:s'.vols=b0D id s.vols) (ho: ∀p∈b0D id s.vols,a0Z G' p.2.root=a0Z G p.2.root)
 (h1:s'.next=s.next) (h2:s'.epoch=s.epoch) (h3:s'.bits=s.bits):J s' G' {P with l:=P.l.eraseIdx i} :=by
 have hm:=h.ci.inv.u.m.vols;rw[r0O hi]at he;have hin: ∀w∈P.l.eraseIdx i,w∈P.l∧w.id≠id:=fun w hw=>by
  obtain⟨k,hk,rfl⟩:=List.mem_iff_getElem.1 hw;rw[List.length_eraseIdx_of_lt hi]at hk;rw[List.getElem_eraseIdx];split
  ·rename_i hlt;exact⟨List.getElem_mem _,by rw[←he];exact e1S h.ord _ hi (by omega)⟩
  ·rename_i hlt;exact⟨List.getElem_mem _,by rw[←he];exact e1S h.ord _ hi (by omega)⟩
 have hout: ∀w∈P.l,w.id≠id→w∈P.l.eraseIdx i:=fun w hw hne=>by
  obtain⟨k,hk,rfl⟩:=List.mem_iff_getElem.1 hw;rw[List.mem_eraseIdx_iff_getElem];exact⟨k,hk,fun e=>by subst e;exact hne he,rfl⟩
 refine⟨c,h1.trans h.next,h.pos,h3.trans h.bits,h2.trans h.epoch,?_,h.ord.sublist (List.eraseIdx_sublist ..),fun w hw=>h.ids w (hin w hw).1,fun w hw=> ?_,fun p hp=> ?_⟩
 ·show _=(P.l.eraseIdx i).length;rw[hv,List.length_eraseIdx_of_lt hi,←h.len,(p0D hx).length_eq,List.length_cons];omega
 ·obtain⟨hw1,hne⟩:=hin w hw;obtain⟨z,hz,hzr⟩:=h.vol w hw1;have hp:(w.id,z)∈b0D id s.vols:=by rw[←e0D (k0F id hm),c0L id _ hm,if_neg (Ne.symm hne)];exact hz
  refine⟨z,by rw[hv,c0L id _ hm,if_neg (Ne.symm hne)];exact hz,hzr.parent,hzr.only,hzr.size,hzr.born,?_⟩;rw[ho _ hp];exact hzr.map
 ·rw[hv]at hp;obtain⟨w,hw,e⟩:=h.back p (n0Z hp);refine⟨w,hout w hw fun e2=> ?_,e⟩;have h4:=(e0D (k0F id hm) (k:=p.1) (v:=p.2)).2 hp;rw[c0L id _ hm,if_pos (e2.symm.trans e)]at h4;cases h4
theorem J.add (h:J s G P) {x:Ent} {v:Vp} (hn:P.next<1000000000) (h16:P.l.length<16) (c:CI s' G') (hv:s'.vols=s.vols++ [(s.next,{x with id:=s.next,born:=s.epoch})]) (ho: ∀p∈s.vols,a0Z G' p.2.root=a0Z G p.2.root)
 (h1:s'.next=m0Z (s.next+1)) (h2:s'.epoch=s.epoch) (h3:s'.bits=s.bits) (hr:x.parent=v.parent∧x.only=v.only∧x.size=v.size∧l0K v.m (a0Z G' x.root)):J s' G' (g0M P v).1:=by
 have hpos:=h.pos;unfold g0M;rw[if_neg (by omega)];have hnone:a0C s.next s.vols=none:=by
  cases e:a0C s.next s.vols with
  |none=>rfl
  |some y=>
   obtain⟨w,hw,e2⟩:=h.back _ (h.ci.mem e);have:=(h.ids w hw).2;simp only at e2;rw[h.next]at e2;omega
 refine⟨c,?_,by show 1≤P.next+1;omega,h3.trans h.bits,h2.trans h.epoch,?_,?_,fun w hw=> ?_,fun w hw=> ?_,fun p hp=> ?_⟩
 ·show s'.next=P.next+1;rw[h1,h.next];unfold m0Z;omega
 ·rw[hv];simp[h.len]
 ·refine List.pairwise_append.2 ⟨h.ord,List.pairwise_singleton _ _,fun a ha b hb=> ?_⟩;rw[List.mem_singleton.1 hb];exact(h.ids a ha).2
 ·rcases List.mem_append.1 hw with hw|hw
  ·have:=h.ids w hw;exact⟨this.1,by show w.id<P.next+1;omega⟩
  ·rw[List.mem_singleton.1 hw];exact⟨h.pos,by show P.next<P.next+1;omega⟩
 ·rw[hv];rcases List.mem_append.1 hw with hw|hw
  ·obtain⟨z,hz,hzr⟩:=h.vol w hw;refine⟨z,by rw[j1I,hz],hzr.parent,hzr.only,hzr.size,hzr.born,?_⟩;rw[ho _ (h.ci.mem hz)];exact hzr.map
  ·rw[List.mem_singleton.1 hw];refine⟨{x with id:=s.next,born:=s.epoch},?_,hr.1,hr.2.1,hr.2.2.1,h.epoch,hr.2.2.2⟩;show a0C P.next _=_;rw[j1I,←h.next,hnone];simp
 ·rw[hv]at hp;rcases List.mem_append.1 hp with hp|hp
  ·obtain⟨w,hw,e⟩:=h.back p hp;exact⟨w,List.mem_append_left _ hw,e⟩
  ·rw[List.mem_singleton.1 hp];exact⟨_,List.mem_append_right _ (List.mem_singleton.2 rfl),h.next.symm⟩
end
end
end Go.Sb

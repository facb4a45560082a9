/- Part of the proof; no statement of its own. -/
import Derived.Test.YtpinhnikemamjaaGreatDoorD13
set_option linter.all false
set_option maxRecDepth 4000
set_option maxHeartbeats 4000000
namespace Go.Sb
section
def e1Q (m:Nat→B) (a b:Nat):Nat→B:=fun j=>if a≤j∧j<b then a0L 256 else m j
def y0C (m:Nat→B) (fr u:Nat):Nat→B:=
 if u/4≤(fr+3)/4 then k0J ((u-fr)*64) m fr (a0L ((u-fr)*64))else
 k0J ((u-4*(u/4))*64) (e1Q (k0J ((4*((fr+3)/4)-fr)*64) m fr (a0L ((4*((fr+3)/4)-fr)*64))) ((fr+3)/4) (u/4)) (4*(u/4)) (a0L ((u-4*(u/4))*64))
def s0S (bits:Nat) (Os:List (Nat→B)) (m:Nat→B) (fr u:Nat):Prop:=
 if u/4≤(fr+3)/4 then j0N bits Os ((u-fr)*64) m fr (a0L ((u-fr)*64))else
 j0N bits Os ((4*((fr+3)/4)-fr)*64) m fr (a0L ((4*((fr+3)/4)-fr)*64))∨
 j0N bits Os ((u-4*(u/4))*64) (e1Q (k0J ((4*((fr+3)/4)-fr)*64) m fr (a0L ((4*((fr+3)/4)-fr)*64))) ((fr+3)/4) (u/4)) (4*(u/4)) (a0L ((u-4*(u/4))*64))
theorem u1H {α:Type} [DecidableEq α]: ∀ {l m:List α},l.Nodup→l ⊆ m→l.length≤m.length
 | [],_,_,_=>Nat.zero_le _
 |x::l,m,hn,hs=>by
  obtain⟨c,d⟩:=List.nodup_cons.1 hn;have a:x∈m:=hs List.mem_cons_self;have:=u1H (l:=l) (m:=m.erase x) d (fun y b=>(List.mem_erase_of_ne (fun e=>c (by rw[←e];exact b))).2 (hs (List.mem_cons_of_mem _ b)));rw[List.length_erase_of_mem a]at this;have:=List.length_pos_of_mem a;rw[List.length_cons];omega
section
variable {s:St} {G:Gh} {P:List Int}
theorem Inv.msetMap {root:Int} {i:Nat} (h:Inv s G (root::P)) (hi:Idx s G) (a:a0W G 3 root) (c:i<512) (k:d0J (g0H 2) s) (m:P.length≤700000):
 (∃r s' G',Go.Sb.m0G root i 0 s=(.ok r,s')∧Inv s' G' (r::P)∧Stp (g0H 2) 3 s G s' G'∧a0W G' 3 r∧a0Z G' r=upd (a0Z G root) i (a0L 256))∨Fl 3 False (Go.Sb.m0G root i 0) s:=by
 have f:Inv s G (root::0::P):=h.perm fun x l=>by rw[List.count_cons,List.count_cons,List.count_cons_of_ne (Ne.symm l)]
 rcases f.mset hi a (.inl rfl) c k (by omega)with ⟨r,s',G',e,i2,t2,k2,c2⟩|hf
 ·refine .inl ⟨r,s',G',e,i2,t2,k2,?_⟩;funext j;by_cases b:j<512
  case neg=>unfold upd a0Z;rw[if_neg b,if_neg b,if_neg (by omega)]
  have g:=c2 j b;have d:=k0I (i2.leafKid 2 k2 j);unfold upd a0Z;rw[if_pos b,if_pos b];rw[g]at d ⊢;by_cases e:j=i
  ·rw[if_pos e,if_pos e];unfold d0F;rw[i2.zero]
  ·rw[if_neg e]at d ⊢;rw[if_neg e];exact h.leafSame t2.old i2.zero (h.leafKid 2 a j) d
 ·exact .inr hf
theorem Inv.clears (C:Nat) (g:g0H 2=C): ∀(ys:List (Nat×Int)) {s:St} {G:Gh} {root:Int},Inv s G (root::P)→Idx s G→a0W G 3 root→(∀y∈ys,y.1<512)→d0J (ys.length*C) s→P.length≤700000→(∀p∈P,a0W G 3 p)→
 (∃r s' G',s0G (fun r (x:Nat×Int)=>Go.Sb.m0G r x.1 0) root ys s=(.ok r,s')∧Inv s' G' (r::P)∧Stp (ys.length*C) (ys.length*3) s G s' G'∧a0W G' 3 r∧(∀p∈P,a0W G' 3 p∧a0Z G' p=a0Z G p)∧
  a0Z G' r=fun j=>if j∈ys.map (·.1)then a0L 256 else a0Z G root j)∨Fl (ys.length*3) False (s0G (fun r (x:Nat×Int)=>Go.Sb.m0G r x.1 0) root ys) s
 | [],s,G,root,h,hi,hr,_,_,_,hP=> .inl ⟨root,s,G,rfl,h,(Stp.refl h hi).mono (by omega) (by omega),hr,fun p a=>⟨hP p a,rfl⟩,by funext j;simp⟩
 |y::ys,s,G,root,h,hi,hr,hy,hro,hPl,hP=>by
  have b:d0J (C+ys.length*C) s:=hro.le (by rw[List.length_cons,Nat.succ_mul];omega);have e0:s0G (fun r (x:Nat×Int)=>Go.Sb.m0G r x.1 0) root (y::ys)=a0B (Go.Sb.m0G root y.1 0) fun r=>s0G (fun r (x:Nat×Int)=>Go.Sb.m0G r x.1 0) r ys:=rfl;rw[e0];rcases h.msetMap hi hr (hy y List.mem_cons_self) (by rw[g];exact b.le (by omega)) hPl with ⟨r,s1,G1,e1,i1,t1,k1,m1⟩|hf
  ·rw[g]at t1;have d: ∀p∈P,a0W G1 3 p∧a0Z G1 p=a0Z G p:=fun p a=>by
    have i:p=0∨(a0C p G1).isSome=true:=if h0:p=0 then .inl h0 else .inr (i1.pend (List.mem_cons_of_mem _ a) h0)
    exact⟨h.kidSame t1.old (hP p a) i,h.mapKeep i1 t1.old (hP p a) i⟩
   rcases Inv.clears C g ys i1 t1.idx k1 (fun z k=>hy z (List.mem_cons_of_mem _ k)) (b.go t1.rel) hPl (fun p a=>(d p a).1)with ⟨r2,s2,G2,e2,i2,t2,k2,p2,m2⟩|hf
   ·refine .inl ⟨r2,s2,G2,by rw[a0A e1,e2],i2,(t1.trans t2).mono (by rw[List.length_cons,Nat.succ_mul];omega) (by rw[List.length_cons,Nat.succ_mul];omega),k2,fun p a=>⟨(p2 p a).1,(p2 p a).2.trans (d p a).2⟩,?_⟩;rw[m2,m1];funext j;unfold upd;by_cases e:j∈ys.map (·.1)
    ·rw[if_pos e,if_pos (by rw[List.map_cons];exact List.mem_cons_of_mem _ e)]
    ·rw[if_neg e];by_cases f:j=y.1
     ·rw[if_pos f,if_pos (by rw[List.map_cons,f];exact List.mem_cons_self)]
     ·rw[if_neg f,if_neg (by rw[List.map_cons];intro c;rcases List.mem_cons.1 c with c|c;(· exact f c);(· exact e c))]
   ·exact .inr (Fl.there e1 t1.rel t1.keep hf (by rw[List.length_cons,Nat.succ_mul];omega) id)
  ·exact .inr (hf.here (by rw[List.length_cons,Nat.succ_mul];omega) False.elim)
theorem Inv.clearA {root:Int} {a b:Nat} (h:Inv s G (root::P)) (hi:Idx s G) (k:a0W G 3 root) (l:d0J ((clL G root a b).length*g0H 2) s) (f:P.length≤700000) (n: ∀p∈P,a0W G 3 p):
 (∃r s' G',Go.Sb.k0M root a b s=(.ok r,s')∧Inv s' G' (r::P)∧Stp ((clL G root a b).length*g0H 2) ((clL G root a b).length*3) s G s' G'∧a0W G' 3 r∧(∀p∈P,a0W G' 3 p∧a0Z G' p=a0Z G p)∧
  a0Z G' r=e1Q (a0Z G root) a b)∨Fl ((clL G root a b).length*3) False (Go.Sb.k0M root a b) s:=by
 have e0:Go.Sb.k0M root a b s=s0G (fun r (x:Nat×Int)=>Go.Sb.m0G r x.1 0) root (clL G root a b) s:=a0A (h.leavesA k a b);have i:=fun j=>h.clL_mem k a b j;rcases Inv.clears (g0H 2) rfl (clL G root a b) h hi k (fun y o=>((i y.1).1 (List.mem_map.2 ⟨y,o,rfl⟩)).2.2.1) l f n with ⟨r,s',G',e,q,v,t,p2,u⟩| ⟨e,s',c,d⟩
 ·refine .inl ⟨r,s',G',by rw[e0,e],q,v,t,p2,?_⟩;rw[u];funext j;unfold e1Q;by_cases c:j∈(clL G root a b).map (·.1)
  ·have:=(i j).1 c;rw[if_pos c,if_pos ⟨this.1,this.2.1⟩]
  ·rw[if_neg c];by_cases d:a≤j∧j<b
   ·rw[if_pos d];by_cases g:j<512
    ·have m:c0P G 2 root j=0:=Classical.byContradiction fun m=>c ((i j).2 ⟨d.1,d.2,g,m⟩);unfold a0Z d0F;rw[if_pos g,m,h.zero]
    ·unfold a0Z;rw[if_neg g]
   ·rw[if_neg d]
 ·exact .inr ⟨e,s',by rw[e0,c],d⟩
theorem Inv.clL_len (h:Inv s G P) {root:Int} (l:a0W G 3 root) {a b:Nat} {m:List Lf} (r:l0K m (a0Z G root)):(clL G root a b).length≤m.length:=by
 have t:=h.clL_nodup l a b;have f:((clL G root a b).map (·.1)).map (fun j:Nat=>(j:Int)) ⊆ m.map (·.1):=fun x u=>by
  obtain⟨j,q,rfl⟩:=List.mem_map.1 u;obtain⟨_,_,i,e⟩:=(h.clL_mem l a b j).1 q;rcases p0M (j:Int) m with g|g
  ·exfalso;have c:=r.eq j;rw[g]at c;rcases h.leafKid 2 l j with p| ⟨d,ats,o⟩
   ·exact e p
   ·unfold a0Z d0F at c;rw[if_pos i,o]at c;have n:=(h.typ _ _ o).2.1;simp only at c;rw[c,d0N]at n;cases n
  ·exact List.mem_map.2 ⟨_,g,rfl⟩
 have k:(((clL G root a b).map (·.1)).map (fun j:Nat=>(j:Int))).Nodup:=List.pairwise_map.2 (t.imp fun e=>by omega);have:=u1H k f;simpa using this
end
end
section
theorem g0J (n:Nat):(a0L n).length=n:=by simp[a0L]
section
variable {s:St} {G:Gh} {P:List Int}
theorem Inv.patchZ (Cp:Nat) (e:16+g0H 2=Cp) {x:Ent} {at_ q m:Nat} (h:Inv s G (x.root::P)) (hi:Idx s G) (f:a0W G 3 x.root) (c: ∀p∈P,a0W G 3 p) (g:q≤m) (d:at_+q≤2048) (b:d0J (m*Cp) s) (a:P.length≤1000):
 (∃r s' G',e0T x at_ (a0L (q*64)) s=(.ok {x with root:=r},s')∧Inv s' G' (r::P)∧Stp (m*Cp) (m*8) s G s' G'∧a0W G' 3 r∧(∀p∈P,a0W G' 3 p∧a0Z G' p=a0Z G p)∧
  a0Z G' r=k0J (q*64) (a0Z G x.root) at_ (a0L (q*64))∧ ¬j0N s.bits (P.map (a0Z G)) (q*64) (a0Z G x.root) at_ (a0L (q*64)))∨
 Fl (m*8) (j0N s.bits (P.map (a0Z G)) (q*64) (a0Z G x.root) at_ (a0L (q*64))) (e0T x at_ (a0L (q*64))) s:=by
 have:=Inv.patch Cp e (q*64) m (x:=x) (at_:=at_) (data:=a0L (q*64)) h hi f c (by rw[g0J];omega) (by rw[g0J];omega) (by rw[g0J];omega) b a;unfold e0T;rw[g0J];exact this
theorem Inv.cclear (Cp C:Nat) (c:16+g0H 2=Cp) (S:g0H 2=C) {x:Ent} {fr u L:Nat} (h:Inv s G (x.root::P)) (hi:Idx s G) (T:a0W G 3 x.root) (R: ∀p∈P,a0W G 3 p) (hfu:fr≤u) (hu:u≤2048) (v:d0J (6*Cp+L*C) s) (l:P.length≤1000)
 (hL: ¬u/4≤(fr+3)/4→ ¬j0N s.bits (P.map (a0Z G)) ((4*((fr+3)/4)-fr)*64) (a0Z G x.root) fr (a0L ((4*((fr+3)/4)-fr)*64))→
  ∃N,l0K N (k0J ((4*((fr+3)/4)-fr)*64) (a0Z G x.root) fr (a0L ((4*((fr+3)/4)-fr)*64)))∧N.length≤L):
 (∃r s' G',i0C x fr u s=(.ok {x with root:=r},s')∧Inv s' G' (r::P)∧Stp (6*Cp+L*C) (48+L*3) s G s' G'∧a0W G' 3 r∧(∀p∈P,a0W G' 3 p∧a0Z G' p=a0Z G p)∧
  a0Z G' r=y0C (a0Z G x.root) fr u∧ ¬s0S s.bits (P.map (a0Z G)) (a0Z G x.root) fr u)∨
 Fl (48+L*3) (s0S s.bits (P.map (a0Z G)) (a0Z G x.root) fr u) (i0C x fr u) s:=by
 unfold i0C y0C s0S;rw[if_neg (show ¬5000<u by omega)];by_cases d:u/4≤(fr+3)/4
 ·rw[if_pos d,if_pos d,if_pos d];rcases h.patchZ Cp c (at_:=fr) (q:=u-fr) (m:=6) hi T R (by omega) (by omega) (v.le (by omega)) l with ⟨r,s',G',e,i,t,k,p,m,n⟩|z
  ·exact .inl ⟨r,s',G',e,i,t.mono (by omega) (by omega),k,p,m,n⟩
  ·exact .inr (z.mono (by omega) id)
 ·rw[if_neg d,if_neg d,if_neg d];have hL:=hL d;rw[show(fr+3)/4*4=4*((fr+3)/4)from Nat.mul_comm _ _,show u/4*4=4*(u/4)from Nat.mul_comm _ _];obtain⟨a,ha⟩: ∃a,a=(fr+3)/4:=⟨_,rfl⟩;obtain⟨b,hb⟩: ∃b,b=u/4:=⟨_,rfl⟩;rw[←ha]at d hL ⊢;rw[←hb]at d ⊢;rcases h.patchZ Cp c (at_:=fr) (q:=4*a-fr) (m:=3) hi T R (by omega) (by omega) (v.le (by omega)) l with ⟨O,s1,I,Q,U,t1,k1,p1,V,W⟩|z
  ·obtain⟨N,A,hml⟩:=hL W;rw[←V]at A;have hcl:=U.clL_len k1 (a:=a) (b:=b) A;have hcc:(clL I O a b).length*C≤L*C:=Nat.mul_le_mul_right _ (by omega);have g:d0J (L*C+3*Cp) s1:=(v.le (by omega:3*Cp+(L*C+3*Cp)≤_)).go t1.rel;have M:P.map (a0Z I)=P.map (a0Z G):=List.map_congr_left fun p c=>(p1 p c).2;rcases U.clearA (a:=a) (b:=b) t1.idx k1 (by rw[S];exact g.le (by omega)) (by omega) (fun p c=>(p1 p c).1)with ⟨r2,s2,G2,e2,i2,t2,k2,p2,m2⟩|z
   ·rw[S]at t2;have f:=t1.trans t2;have B:d0J (3*Cp) s2:=(g.le (by omega:(clL I O a b).length*C+3*Cp≤_)).go t2.rel;have o:P.map (a0Z G2)=P.map (a0Z G):=List.map_congr_left fun p c=>((p2 p c).2.trans (p1 p c).2);have H:=i2.patchZ Cp c (x:= {x with root:=r2}) (at_:=4*b) (q:=u-4*b) (m:=3) t2.idx k2 (fun p c=>(p2 p c).1) (by omega) (by omega) B l;rw[o,show s2.bits=s.bits from f.rel.bits]at H;simp only at H;rw[m2,V]at H;have F:(a0B (e0T x fr (a0L ((4*a-fr)*64))) fun y=>a0B (Go.Sb.k0M y.root a b) fun r=>e0T {y with root:=r} (4*b) (a0L ((u-4*b)*64))) s=e0T {x with root:=r2} (4*b) (a0L ((u-4*b)*64)) s2:=by
     rw[a0A Q];exact a0A e2
    rcases H with ⟨r3,E,X,Y,i3,t3,k3,p3,m3,n3⟩| ⟨e,E,j,J⟩
    ·refine .inl ⟨r3,E,X,by rw[F,Y],i3,(f.trans t3).mono (by omega) (by omega),k3,fun p c=>⟨(p3 p c).1,(p3 p c).2.trans ((p2 p c).2.trans (p1 p c).2)⟩,m3,?_⟩;rintro(j|j)
     ·exact W j
     ·exact n3 j
    ·refine .inr ⟨e,E,by rw[F,j],J.imp (fun⟨D,w⟩=>⟨D,?_⟩) (fun⟨D,w⟩=>⟨D,.inr w⟩)⟩;have Z:=f.rel.room;have K:s2.keep=s.keep:=f.keep;rw[K]at w;omega
   ·have F:(a0B (e0T x fr (a0L ((4*a-fr)*64))) fun y=>a0B (Go.Sb.k0M y.root a b) fun r=>e0T {y with root:=r} (4*b) (a0L ((u-4*b)*64))) s=(a0B (Go.Sb.k0M O a b) fun r=>e0T {x with root:=r} (4*b) (a0L ((u-4*b)*64))) s1:=a0A Q;obtain⟨e,E,j,J⟩:=z;refine .inr ⟨e,E,by rw[F];exact a0F j,?_⟩;rcases J with ⟨D,w⟩| ⟨_,w⟩
    ·refine .inl ⟨D,?_⟩;have Z:=t1.rel.room;have K:=t1.keep;rw[K]at w;omega
    ·exact w.elim
  ·exact .inr (z.here (by omega) fun h=> .inl h)
end
theorem l0K.clear {m:List Lf} {f:Nat→B} (h:l0K m f) (a b:Nat):l0K (h0G m a b) (e1Q f a b):=
 ⟨h.ok.clear _ _,fun x c=>h.nz x (List.mem_filter.1 c).1,fun j=>by
  unfold e1Q;rw[h1T];by_cases e:a≤j∧j<b
  ·rw[if_pos e,if_pos (by omega)]
  ·rw[if_neg e,if_neg (by omega),h.eq]⟩
theorem p0N.sub {f b:Nat→B} {Os:List (Nat→B)} {bits:Nat} (h:p0N (f::Os) bits) (t: ∀j,a0R (b j)=false→b j=f j):p0N (b::Os) bits:=by
 have a: ∀g∈b::Os,∀j,a0R (g j)=false→ ∃g'∈f::Os,g j=g' j:=fun g c j u=>by
  rcases List.mem_cons.1 c with rfl|c
  ·exact⟨f,List.mem_cons_self,t j u⟩
  ·exact⟨g,List.mem_cons_of_mem _ c,rfl⟩
 intro v r w s i j l m k;obtain⟨p,d,n⟩:=a v r i l;obtain⟨q,e,o⟩:=a w s j m;rw[n]at k l ⊢;rw[o]at k m ⊢;exact h p d q e i j l m k
theorem e2P (m:List Lf) (a b:Int):(h0G m a b).length≤m.length:=List.length_filter_le _ _
theorem w0N (n:Nat):a0R (a0L n)=true:=d0N n
theorem u1I {i:Nat} {c:Rp} {f:Nat→B} {Os:List (Nat→B)} {fr u:Nat} (hi:i<c.l.length) (q:r0N c i Os) (v:l0K (c.l.getD i v0).m f) (w:p0N (f::Os) c.bits) (D:fr≤u) (hu:u≤2048):
 (s0S c.bits Os f fr u∧(e0A c i fr u).2=9)∨
 (¬s0S c.bits Os f fr u∧ ∃m',e0A c i fr u=(d0K c i m',0)∧l0K m' (y0C f fr u)∧p0N (y0C f fr u::Os) c.bits∧m'.length≤(c.l.getD i v0).m.length):=by
 unfold s0S y0C e0A;simp only;by_cases d:u/4≤(fr+3)/4
 ·rw[if_pos d,if_pos d,if_pos d];rcases r0P i ((u-fr)*64) c f Os fr (a0L ((u-fr)*64)) hi q v w (by rw[g0J];omega) (by rw[g0J];omega) (by rw[g0J];exact Nat.le_refl _)with h| ⟨h1,m',h2,h3,h4,_,n⟩
  ·exact .inl h
  ·exact .inr ⟨h1,m',h2,h3,h4,n (w0N _)⟩
 ·rw[if_neg d,if_neg d,if_neg d];obtain⟨a,C⟩: ∃a,a=(fr+3)/4:=⟨_,rfl⟩;obtain⟨b,hb⟩: ∃b,b=u/4:=⟨_,rfl⟩;rw[←C,←hb]at d ⊢;rcases r0P i ((4*a-fr)*64) c f Os fr (a0L ((4*a-fr)*64)) hi q v w (by rw[g0J];omega) (by rw[g0J];omega) (by rw[g0J];exact Nat.le_refl _)with ⟨h1,h2⟩| ⟨h1,m1,h2,h3,h4,_,n⟩
  ·exact .inl ⟨.inl h1,by rw[if_pos (by rw[h2];decide)];exact h2⟩
  ·rw[h2];simp only;rw[if_neg (by decide)];have n:=n (w0N _);have s:=y0A (m:=m1) hi;rw[s];simp only;rw[q0B hi];have E:=h3.clear a b;have r:p0N (e1Q (k0J ((4*a-fr)*64) f fr (a0L ((4*a-fr)*64))) a b::Os) c.bits:=h4.sub fun j t=>by
    unfold e1Q at t ⊢;split
    ·rename_i e;rw[if_pos e,d0N]at t;cases t
    ·rfl
   have g:=y0A (m:=h0G m1 a b) hi;have p:=q0V c i (h0G m1 a b);have x:=r0P i ((u-4*b)*64) (d0K c i (h0G m1 a b)) _ Os (4*b) (a0L ((u-4*b)*64)) (by rw[p];exact hi) (q.with_ _) (by rw[g];exact E) r (by rw[g0J];omega) (by rw[g0J];omega) (by rw[g0J];exact Nat.le_refl _);rw[show(d0K c i (h0G m1 a b)).bits=c.bits from rfl,g]at x;rcases x with ⟨o,k⟩| ⟨o,F,k,y,z,_,A⟩
   ·exact .inl ⟨.inr o,by rw[if_pos (by rw[k];decide)];exact k⟩
   ·refine .inr ⟨fun h=>h.elim h1 o,F,?_,y,z,?_⟩
    ·rw[k];simp only;rw[if_neg (by decide),q0B hi]
    ·have:=A (w0N _);have:=e2P m1 a b;simp only at*;omega
end
section
def UMe {α:Type} (m:M α):Prop:= ∀s,0<s.depth→UOK s→(m s).1≠ .big→ ∃c k,Rel c k s (m s).2
section
variable {α β:Type}
theorem UM.ex {c k:Nat} {m:M α} (h:UM c k m):UMe m:=fun s hd a hb=>⟨c,k,h s hd a hb⟩
theorem j0F {m:M α} {f:α→M β} (h:UMe m) (i: ∀a,UMe (f a)):UMe (a0B m f):=fun s hd j hb=>by
 obtain⟨c,k,b⟩:=h s hd j (c0I hb);cases e:m s with
 |mk o t=>
  rw[e]at b;cases o with
  |ok a=>have d:=p0H hb e;rw[a0A e];obtain⟨c',k',g⟩:=i a t (by rw[b.depth];exact hd) b.ok d;exact⟨_,_,b.trans g⟩
  |err e'=>rw[a0F e];exact⟨c,k,b⟩
  |big=>exact(c0I hb (by rw[e])).elim
theorem e1R {p:Prop} [Decidable p] {m n:M α} (h:UMe m) (j:UMe n):UMe (if p then m else n):=by split<;>assumption
theorem b2Q:UMe (fun s=>(.big,s):M α):=fun s _ _ hb=>(hb rfl).elim
theorem u1J (e:Int):UMe (n0L e:M α):=(x0F e).ex
theorem u2G (a:α):UMe (ret a:M α):=(d0D a).ex
theorem z0E (x:Ent) (at_:Nat) {data:B} (h:data.length%64=0):UMe (e0T x at_ data):=(t1M data.length x at_ data (data.length/64) (by omega) h).ex
theorem e2Q (root:Int) (a b:Nat):UMe (m0B root a b):=fun s _ c hb=>by
 unfold m0B at hb ⊢;split
 ·exact⟨0,0,Rel.refl c⟩
 ·exact⟨0,0,Rel.refl c⟩
theorem j2R (root:Int) (a b:Nat):UMe (k0M root a b):=j0F (e2Q root a b) fun l=>(a2X (fun r (x:Nat×Int)=>b2B r x.1 0) l root).ex
theorem l1M (x:Ent) (fr u:Nat):UMe (i0C x fr u):=by
 unfold i0C;refine e1R b2Q (e1R (z0E _ _ (by rw[g0J];omega)) (j0F (z0E _ _ (by rw[g0J];omega)) fun y=>j0F (j2R _ _ _) fun r=>z0E _ _ (by rw[g0J];omega)))
theorem c1E (x:Ent) (a n:Int):UMe (h0J x a n):=e1R b2Q (j2G x a n).ex
theorem s0T (id at_:Int) (data:B):UMe (i0X id at_ data):=j0F (j1E id).ex fun x=>by
 by_cases h:data.length%64≠0
 ·rw[if_pos h];exact u1J 4
 ·rw[if_neg h];exact j0F (c1E _ _ _) fun _=>j0F (z0E _ _ (by omega)) fun y=>(x0G y).ex
theorem c1F (id at_ n:Int):UMe (r0Q id at_ n):=j0F (j1E id).ex fun x=>j0F (c1E _ _ _) fun _=>j0F (l1M _ _ _) fun y=>(x0G y).ex
theorem w0O (id size:Int):UMe (m0C id size):=j0F (j1E id).ex fun x=>e1R (u1J 4) (j0F (e1R (l1M _ _ _) (u2G _)) fun y=>(x0G _).ex)
theorem e2R (id:Int):UMe (q0C id):=j0F (o1E id).ex fun x=>j0F (h1P id).ex fun _=>(j1C x.root 2).ex
theorem u1K (id at_ n:Int):UMe (o0S id at_ n):=j0F (o1E id).ex fun x=>j0F (c1E _ _ _) fun _=>by
 have: ∀(k:Nat) (y:Ent) (a m:Nat),UM 0 0 (k0D k y a m):=fun k=>by
  induction k with
  |zero=>intro y a m;exact d0D _
  |succ k ih=>intro y a m;unfold k0D;exact l0R (d0D _) (c0J (b2C _ _) fun b=>c0J (ih _ _ _) fun r=>d0D _)
 exact(this _ _ _ _).ex
end
structure l1N (s s':St) (G:Gh):Prop where
 ci:CI s' G
 perm:s'.vols.Perm s.vols
 vols:meq s'.vols s.vols
 bits:s'.bits=s.bits
 next:s'.next=s.next
 epoch:s'.epoch=s.epoch
 room:a0Y s≤a0Y s'
section
variable {s:St} {G:Gh}
theorem CI.still (h:CI s G):l1N s s G:=⟨h,List.Perm.refl _,fun _=>rfl,rfl,rfl,rfl,Nat.le_refl _⟩
theorem CI.failed {α:Type} {m:M α} {er:Int} {t:St} (h:CI s G) (hu:UMe m) (e:m (Go.Sb.start s 0)=(.err er,t)) (a:er≠0):
 ∃s',i0K (Go.Sb.e0M 0 m) s=(.ok (er,.lost),s')∧l1N s s' G:=by
 obtain⟨d,_⟩:=h.start 0;obtain⟨c,k,r⟩:=hu (Go.Sb.start s 0) Nat.zero_lt_one d.u (by rw[e];simp);rw[e]at r;have e0:Go.Sb.e0M 0 m {s with depth:=1} =(.err er,t):=by rw[h.roomC (.inl rfl)];exact e
 have b:=(h.rel 0).trans r;obtain⟨f,g,i,u4,j,l,n⟩:=h.undone b;exact⟨_,c1A h e0 a b,f,g,i,u4,j,l,n⟩
theorem CI.failed0 {α:Type} {m:M α} {er:Int} {t:St} (h:CI s G) (hu:UMe m) (e:m {s with depth:=1} =(.err er,t)) (a:er≠0): ∃s',i0K m s=(.ok (er,.lost),s')∧l1N s s' G:=by
 obtain⟨c,k,r⟩:=hu {s with depth:=1} Nat.zero_lt_one h.deep.u (by rw[e];simp);rw[e]at r;obtain⟨b,d,f,u4,g,i,j⟩:=h.undone r;exact⟨_,c1A h e a r,b,d,f,u4,g,i,j⟩
theorem CI.mem (h:CI s G) {id:Int} {x:Ent} (a:a0C id s.vols=some x):(id,x)∈s.vols:=(e0D h.inv.u.m.vols).1 a
def l0L (s:St) (id:Int):List Int:=(b0D id s.vols).map (·.2.root)
theorem CI.roots (h:CI s G) {id:Int} {x:Ent} (a:a0C id s.vols=some x):Inv (Go.Sb.start s 0) G (x.root::l0L s id):=by
 obtain⟨b,_⟩:=h.start 0;exact b.perm fun y _=>(((p0D a).map (fun p:Int×Ent=>p.2.root)).count_eq y)
theorem CI.othersKid (h:CI s G) (id:Int): ∀p∈l0L s id,a0W G 3 p:=fun p a=>by
 obtain⟨q,b,rfl⟩:=List.mem_map.1 a;exact h.kid _ (n0Z b)
theorem CI.othersLen (h:CI s G) {id:Int} {x:Ent} (b:a0C id s.vols=some x):(l0L s id).length≤16:=by
 have a:=(p0D b).length_eq;simp only[List.length_cons]at a;have:=h.few;unfold l0L;rw[List.length_map];omega
theorem l1O (s:St) (G:Gh) (id:Int):(l0L s id).map (a0Z G)=o0A s G id:=by unfold l0L;rw[List.map_map];rfl
theorem CI.edited {m:M Unit} {f:M Ent} {id:Int} {x y:Ent} {u:St} {G':Gh} {C K:Nat} (h:CI s G) (q:a0C id s.vols=some x) (e0:m (Go.Sb.start s 0)=a0B f m0H (Go.Sb.start s 0)) (B:f (Go.Sb.start s 0)=(.ok y,u)) (d:y.id=id) (o:1≤y.size∧y.size≤2048)
 (g:Inv u G' (y.root::l0L s id)) (i:Stp C K (Go.Sb.start s 0) G u G') (E:a0W G' 3 y.root) (k3: ∀p∈l0L s id,a0W G' 3 p∧a0Z G' p=a0Z G p) (J:C≤900000000):
 ∃s',i0K (Go.Sb.e0M 0 m) s=(.ok (0,.done ()),s')∧CI s' G'∧s'.vols=b0O id y s.vols∧(∀p∈b0D id s.vols,a0Z G' p.2.root=a0Z G p.2.root)∧s'.next=s.next∧s'.epoch=s.epoch∧s'.bits=s.bits∧a0Y s≤a0Y s'+K∧a0Y u≤a0Y s':=by
 have hd:u.depth=1:=i.rel.depth;have c:u.log.length<1000000000:=by have:=i.rel.len;have l:(Go.Sb.start s 0).log.length=1:=rfl;omega
 have hu:u.vols=s.vols:=i.vols;have v:Go.Sb.e0M 0 m {s with depth:=1} =(.ok (),o0B id y u):=by
  rw[h.roomC (.inl rfl),e0,a0A B,x0I c,d]
 have t:Rel 1 0 u (o0B id y u):=by
  have:=x0G y u (by omega) g.u (by rw[x0I c];simp);rw[x0I c,d]at this;exact this
 have k:=(h.rel 0).trans (i.rel.trans t);have A:=q0U h v k;have b:(o0B id y u).vols=b0O id y s.vols:=by show b0O _ _ u.vols=_;rw[hu]
 have e:=v0T (w:=y) q;have D:Inv (o0B id y u) G' (y.root::l0L s id):=g.other rfl rfl rfl rfl rfl ⟨g.u.m.refs,g.u.m.young,g.u.m.index,k0E _ _ g.u.m.vols⟩ g.u.keep;have r:Inv (o0B id y u) G' (g0Q (o0B id y u)):=by
  unfold g0Q;rw[b];exact D.perm fun z _=>by rw[(e.map (fun p:Int×Ent=>p.2.root)).count_eq z,List.map_cons];rfl
 have j: ∀p∈(o0B id y u).vols,p=(id,y)∨p∈b0D id s.vols:=fun p a=>by
  rw[b]at a;exact List.mem_cons.1 (e.mem_iff.1 a)
 refine⟨Go.Sb.fin (o0B id y u),A,CI.fin r i.idx (fun p a=> ?_) (fun p a=> ?_) ?_,b,fun p a=> ?_,i.next,k.epoch,k.bits,?_⟩
 ·rcases j p a with rfl|n
  ·exact E
  ·exact(k3 _ (List.mem_map.2 ⟨p,n,rfl⟩)).1
 ·rcases j p a with rfl|n
  ·exact⟨d,o⟩
  ·exact h.ids _ (n0Z n)
 ·rw[b,e.length_eq];simp only[List.length_cons];have l:=(p0D q).length_eq;simp only[List.length_cons]at l;have:=h.few;omega
 ·exact(k3 _ (List.mem_map.2 ⟨p,a,rfl⟩)).2
 ·have l:=k.room;have F:=x0Z r;have H:a0Y ({s with depth:=1} :St)=a0Y s:=rfl;have I:=t.room;omega
theorem CI.copened (_:CI s G) {id:Int} {x:Ent} (b:a0C id s.vols=some x) (a:x.only=false):l0Z id (Go.Sb.start s 0)=(.ok x,Go.Sb.start s 0):=by
 unfold l0Z;rw[a0A (show find id (Go.Sb.start s 0)=(.ok x,Go.Sb.start s 0) by unfold find;rw[show a0C id (Go.Sb.start s 0).vols=some x from b])];rw[if_neg (by simp[a])];rfl
theorem c1G {id:Int} (a:a0C id s.vols=none):l0Z id (Go.Sb.start s 0)=(.err 5,Go.Sb.start s 0):=by
 unfold l0Z;exact a0F (show find id (Go.Sb.start s 0)=(.err 5,Go.Sb.start s 0) by unfold find;rw[show a0C id (Go.Sb.start s 0).vols=none from a])
theorem c1H {id:Int} {x:Ent} (b:a0C id s.vols=some x) (a:x.only=true):l0Z id (Go.Sb.start s 0)=(.err 7,Go.Sb.start s 0):=by
 unfold l0Z;rw[a0A (show find id (Go.Sb.start s 0)=(.ok x,Go.Sb.start s 0) by unfold find;rw[show a0C id (Go.Sb.start s 0).vols=some x from b])];rw[if_pos a];rfl
theorem CI.deleted (h:CI s G) {id:Int} {x:Ent} (d:a0C id s.vols=some x):
 ∃s' G',i0K (Go.Sb.e0M 0 (q0C id)) s=(.ok (0,.done ()),s')∧CI s' G'∧s'.vols=b0D id s.vols∧(∀p∈b0D id s.vols,a0Z G' p.2.root=a0Z G p.2.root)∧s'.next=s.next∧s'.epoch=s.epoch∧s'.bits=s.bits∧a0Y s≤a0Y s':=by
 obtain⟨J,E⟩:=h.start 0;have e:=h.roots d;have g:=h.mem d;obtain⟨t1,c⟩: ∃t1:St,t1= {Go.Sb.start s 0 with log:=bk 1 [.keep s.keep] (.vols id (some x)),vols:=b0D id s.vols} :=⟨_,rfl⟩;have k:o0H id (Go.Sb.start s 0)=(.ok (),t1):=by
  unfold o0H a0B back;simp only;rw[if_neg (by show ¬1000000000≤1;omega),c];simp only;rw[show a0C id (Go.Sb.start s 0).vols=some x from d];rfl
 have i:Rel 1 0 (Go.Sb.start s 0) t1:=by
  have:=h1P id (Go.Sb.start s 0) Nat.zero_lt_one e.u (by rw[k];simp);rw[k]at this;exact this
 have n:Inv t1 G (x.root::l0L s id):=by
  rw[c];exact e.other rfl rfl rfl rfl rfl ⟨e.u.m.refs,e.u.m.young,e.u.m.index,k0F _ h.inv.u.m.vols⟩ e.u.keep
 have F:Idx t1 G:=by rw[c];exact E
 have C:j0T 3≤11100:=by decide
 have D:=h.othersLen d;have A:(Go.Sb.start s 0).gone.length=0:=by show s.gone.length=0;rw[h.gone];rfl
 have B:(Go.Sb.start s 0).log.length=1:=rfl;have l:d0J (j0T 3) t1:=⟨by rw[i.depth];exact Nat.zero_lt_one,by have:=i.len;omega,by have:=i.gone;omega⟩;obtain⟨u,G',w,o,f,sb⟩:=n.rless 3 F (h.kid _ g) l (by omega);have z:find id (Go.Sb.start s 0)=(.ok x,Go.Sb.start s 0):=by unfold find;rw[show a0C id (Go.Sb.start s 0).vols=some x from d]
 have v:Go.Sb.e0M 0 (q0C id) {s with depth:=1} =(.ok (),u):=by
  rw[h.roomC (.inl rfl)];unfold q0C;rw[a0A z,a0A k];exact w
 have j:=(h.rel 0).trans (i.trans f.rel);have y:=q0U h v j;have a:u.vols=b0D id s.vols:=by rw[f.vols,c]
 have t:Inv u G' (g0Q u):=by unfold g0Q;rw[a];exact o
 have keep: ∀p∈l0L s id,a0W G' 3 p∧a0Z G' p=a0Z G p:=fun p b=>by
  have r:p=0∨(a0C p G').isSome=true:=if h0:p=0 then .inl h0 else .inr (o.pend b h0)
  exact⟨n.kidSame f.old (h.othersKid id p b) r,n.mapKeep o f.old (h.othersKid id p b) r⟩
 refine⟨Go.Sb.fin u,G',y,CI.fin t f.idx (fun p b=> ?_) (fun p b=> ?_) ?_,a,fun p b=> ?_,?_,j.epoch,j.bits,?_⟩
 ·rw[a]at b;exact(keep _ (List.mem_map.2 ⟨p,b,rfl⟩)).1
 ·rw[a]at b;exact h.ids _ (n0Z b)
 ·rw[a];have q:=(p0D d).length_eq;simp only[List.length_cons]at q;have:=h.few;omega
 ·exact(keep _ (List.mem_map.2 ⟨p,b,rfl⟩)).2
 ·show u.next=s.next;rw[f.next,c];rfl
 ·have q:=j.room;have H:=x0Z t;have I:a0Y ({s with depth:=1} :St)=a0Y s:=rfl;omega
end
end
section
structure u1L (G:Gh) (v:Vp) (x:Ent):Prop where
 parent:x.parent=v.parent
 only:x.only=v.only
 size:x.size=v.size
 born:x.born=v.born
 map:l0K v.m (a0Z G x.root)
structure J (s:St) (G:Gh) (P:Rp):Prop where
 ci:CI s G
 next:s.next=P.next
 pos:1≤P.next
 bits:s.bits=P.bits
 epoch:s.epoch=P.epoch
 len:s.vols.length=P.l.length
 ord:P.l.Pairwise fun a b=>a.id<b.id
 ids: ∀v∈P.l,1≤v.id∧v.id<P.next
 vol: ∀v∈P.l,∃x,a0C v.id s.vols=some x∧u1L G v x
 back: ∀p∈s.vols,∃v∈P.l,v.id=p.1
section
variable {s s':St} {G G':Gh} {P:Rp}
theorem i0Q {l:List Vp} {id:Int} {i:Nat} (h:c0Q l id=some i): ∃hi:i<l.length,l[i].id=id:=by
 unfold c0Q at h;rw[List.findIdx?_eq_some_iff_getElem]at h;exact⟨h.1,by simpa using h.2.1⟩
theorem j2S {l:List Vp} {id:Int} (h:c0Q l id=none): ∀v∈l,v.id≠id:=by
 unfold c0Q at h;rw[List.findIdx?_eq_none_iff]at h;exact fun v a=>by simpa using h v a
theorem e1S {l:List Vp} (h:l.Pairwise fun a b=>a.id<b.id) {i j:Nat} (hi:i<l.length) (e:j<l.length) (d:i≠j):l[i].id≠l[j].id:=by
 rcases Nat.lt_or_gt_of_ne d with c|c
 ·have:=List.pairwise_iff_getElem.1 h i j hi e c;omega
 ·have:=List.pairwise_iff_getElem.1 h j i e hi c;omega
theorem J.found (h:J s G P) {id:Int} {i:Nat} (b:c0Q P.l id=some i): ∃(_:i<P.l.length) (x:Ent),(P.l.getD i v0).id=id∧a0C id s.vols=some x∧u1L G (P.l.getD i v0) x:=by
 obtain⟨hi,a⟩:=i0Q b;obtain⟨x,d,c⟩:=h.vol _ (List.getElem_mem hi);rw[r0O hi];exact⟨hi,x,a,by rw[←a];exact d,c⟩
theorem J.missing (h:J s G P) {id:Int} (b:c0Q P.l id=none):a0C id s.vols=none:=by
 cases e:a0C id s.vols with
 |none=>rfl
 |some x=>
  obtain⟨v,c,a⟩:=h.back _ (h.ci.mem e);exact(j2S b v c a).elim
theorem J.others (h:J s G P) {id:Int} {i:Nat} (hi:i<P.l.length) (g:(P.l.getD i v0).id=id):r0N P i (o0A s G id):=by
 have d:=h.ci.inv.u.m.vols;rw[r0O hi]at g;refine⟨fun k a b=> ?_,fun f r=> ?_⟩
 ·obtain⟨x,z,p⟩:=h.vol _ (List.getElem_mem a);have n:P.l[k].id≠id:=by rw[←g];exact e1S h.ord a hi b
  rw[r0O a];refine⟨a0Z G x.root,List.mem_map.2 ⟨(P.l[k].id,x),?_,rfl⟩,p.map⟩;rw[←e0D (k0F id d),c0L id _ d,if_neg (Ne.symm n)];exact z
 ·obtain⟨⟨j,x⟩,t,rfl⟩:=List.mem_map.1 r;have c:=(e0D (k0F id d)).2 t;rw[c0L id _ d]at c;split at c
  ·cases c
  ·rename_i b;obtain⟨v,w,o⟩:=h.back _ ((e0D d).1 c);obtain⟨k,a,rfl⟩:=List.mem_iff_getElem.1 w;simp only at o;obtain⟨y,q,p⟩:=h.vol _ (List.getElem_mem a);rw[o,c]at q;cases q
   refine⟨k,a,fun e=> ?_,by rw[r0O a];exact p.map⟩;subst e;exact b (g.symm.trans o)
theorem CI.uniq (h:CI s G) {Ms:List (Nat→B)} (v: ∀f∈Ms,∃r,a0W G 3 r∧f=a0Z G r):p0N Ms s.bits:=by
 have leaf: ∀f∈Ms,∀j,a0R (f j)=false→ ∃a ats,a0C a G=some (.ext (f j) ats):=fun f w j b=>by
  obtain⟨r,y,rfl⟩:=v f w;by_cases e:j<512
  case neg=>unfold a0Z at b;rw[if_neg e,d0N]at b;cases b
  rcases h.inv.leafKid 2 y j with q| ⟨d,ats,m⟩
  ·unfold a0Z d0F at b;rw[if_pos e,q,h.inv.zero]at b;simp[d0N]at b
  ·exact⟨_,ats,by rw[m];unfold a0Z d0F;rw[if_pos e,m]⟩
 intro g t z u i j A C x;obtain⟨n,t1,k⟩:=leaf g t i A;obtain⟨o,D,c⟩:=leaf z u j C;have p:=(h.idx (key s.bits (Sha.sum (g i))) n).2 ⟨_,_,k,rfl⟩;have l:=(h.idx (key s.bits (Sha.sum (g i))) o).2 ⟨_,_,c,x⟩;rw[p]at l;cases l
 rw[k]at c;simp only[Option.some.injEq,Ob.ext.injEq]at c;exact c.1
theorem J.uniq (h:J s G P) {id:Int} {x:Ent} (c:a0C id s.vols=some x):p0N (a0Z G x.root::o0A s G id) P.bits:=by
 rw[←h.bits];refine h.ci.uniq fun f a=> ?_;rcases List.mem_cons.1 a with rfl|a
 ·exact⟨x.root,h.ci.kid _ (h.ci.mem c),rfl⟩
 ·obtain⟨p,b,rfl⟩:=List.mem_map.1 a;exact⟨_,h.ci.kid _ (n0Z b),rfl⟩
theorem J.still (h:J s G P) (t:l1N s s' G):J s' G P:=
 ⟨t.ci,t.next.trans h.next,h.pos,t.bits.trans h.bits,t.epoch.trans h.epoch,t.perm.length_eq.trans h.len,h.ord,h.ids,fun v c=>by obtain⟨x,d,b⟩:=h.vol v c;exact⟨x,(t.vols v.id).trans d,b⟩,fun p a=>h.back p (t.perm.mem_iff.1 a)⟩
theorem J.few (h:J s G P):P.l.length≤16:=h.len▸h.ci.few
theorem J.set (h:J s G P) {id:Int} {i:Nat} {x y:Ent} {v:Vp} (hi:i<P.l.length) (j:(P.l.getD i v0).id=id) (A:a0C id s.vols=some x) (c:CI s' G') (r:s'.vols=b0O id y s.vols) (L: ∀p∈b0D id s.vols,a0Z G' p.2.root=a0Z G p.2.root)
 (F:s'.next=s.next) (H:s'.epoch=s.epoch) (I:s'.bits=s.bits) (a:v.id=id) (M:u1L G' v y):J s' G' {P with l:=P.l.set i v} :=by
 have C:=h.ci.inv.u.m.vols;rw[r0O hi]at j;have g:(P.l.set i v).map (·.id)=P.l.map (·.id):=by
  rw[List.map_set,a];have e:(P.l.map (·.id))[i]'(by simpa using hi)=id:=by simpa using j
  rw[←e];exact List.set_getElem_self _
 have o: ∀w∈P.l.set i v,w=v∨(w∈P.l∧w.id≠id):=fun w b=>by
  obtain⟨k,K,rfl⟩:=List.mem_iff_getElem.1 b;have n:k<P.l.length:=by simpa using K
  rw[List.getElem_set];split
  ·exact .inl rfl
  ·rename_i f;exact .inr ⟨List.getElem_mem n,by rw[←j];exact e1S h.ord n hi (Ne.symm f)⟩
 refine⟨c,F.trans h.next,h.pos,I.trans h.bits,H.trans h.epoch,?_,?_,fun w b=> ?_,fun w b=> ?_,fun p q=> ?_⟩
 ·rw[r,(v0T A).length_eq,List.length_set,←h.len,(p0D A).length_eq];rfl
 ·have B:(P.l.map (·.id)).Pairwise (· < ·):=List.pairwise_map.2 h.ord;rw[←g]at B;exact List.pairwise_map.1 B
 ·rcases o w b with rfl| ⟨b,_⟩
  ·rw[a,←j];exact h.ids _ (List.getElem_mem hi)
  ·exact h.ids w b
 ·rw[r];rcases o w b with rfl| ⟨b,f⟩
  ·exact⟨y,by rw[f0N,if_pos a.symm],M⟩
  ·obtain⟨z,D,d⟩:=h.vol w b;refine⟨z,by rw[f0N,if_neg (Ne.symm f)];exact D,d.parent,d.only,d.size,d.born,?_⟩;have q:(w.id,z)∈b0D id s.vols:=by rw[←e0D (k0F id C),c0L id _ C,if_neg (Ne.symm f)];exact D
   rw[L _ q];exact d.map
 ·rw[r]at q;have: ∃w∈P.l,w.id=p.1:=by
   rcases List.mem_cons.1 ((v0T A).mem_iff.1 q)with rfl|hq
   ·exact⟨_,List.getElem_mem hi,j⟩
   ·exact h.back p (n0Z hq)
  obtain⟨w,b,e⟩:=this;have:w.id∈(P.l.set i v).map (·.id):=by rw[g];exact List.mem_map.2 ⟨w,b,rfl⟩
  obtain⟨N,t,E⟩:=List.mem_map.1 this;exact⟨N,t,E.trans e⟩
theorem J.del (h:J s G P) {id:Int} {i:Nat} {x:Ent} (hi:i<P.l.length) (o:(P.l.getD i v0).id=id) (I:a0C id s.vols=some x) (c:CI s' G') (t:s'.vols=b0D id s.vols) (H: ∀p∈b0D id s.vols,a0Z G' p.2.root=a0Z G p.2.root)
 (D:s'.next=s.next) (E:s'.epoch=s.epoch) (F:s'.bits=s.bits):J s' G' {P with l:=P.l.eraseIdx i} :=by
 have g:=h.ci.inv.u.m.vols;rw[r0O hi]at o;have f: ∀w∈P.l.eraseIdx i,w∈P.l∧w.id≠id:=fun w d=>by
  obtain⟨k,q,rfl⟩:=List.mem_iff_getElem.1 d;rw[List.length_eraseIdx_of_lt hi]at q;rw[List.getElem_eraseIdx];split
  ·rename_i r;exact⟨List.getElem_mem _,by rw[←o];exact e1S h.ord _ hi (by omega)⟩
  ·rename_i r;exact⟨List.getElem_mem _,by rw[←o];exact e1S h.ord _ hi (by omega)⟩
 have j: ∀w∈P.l,w.id≠id→w∈P.l.eraseIdx i:=fun w d b=>by
  obtain⟨k,q,rfl⟩:=List.mem_iff_getElem.1 d;rw[List.mem_eraseIdx_iff_getElem];exact⟨k,q,fun e=>by subst e;exact b o,rfl⟩
 refine⟨c,D.trans h.next,h.pos,F.trans h.bits,E.trans h.epoch,?_,h.ord.sublist (List.eraseIdx_sublist ..),fun w d=>h.ids w (f w d).1,fun w d=> ?_,fun p n=> ?_⟩
 ·show _=(P.l.eraseIdx i).length;rw[t,List.length_eraseIdx_of_lt hi,←h.len,(p0D I).length_eq,List.length_cons];omega
 ·obtain⟨y,b⟩:=f w d;obtain⟨z,B,a⟩:=h.vol w y;have n:(w.id,z)∈b0D id s.vols:=by rw[←e0D (k0F id g),c0L id _ g,if_neg (Ne.symm b)];exact B
  refine⟨z,by rw[t,c0L id _ g,if_neg (Ne.symm b)];exact B,a.parent,a.only,a.size,a.born,?_⟩;rw[H _ n];exact a.map
 ·rw[t]at n;obtain⟨w,d,e⟩:=h.back p (n0Z n);refine⟨w,j w d fun C=> ?_,e⟩;have A:=(e0D (k0F id g) (k:=p.1) (v:=p.2)).2 n;rw[c0L id _ g,if_pos (C.symm.trans e)]at A;cases A
theorem J.add (h:J s G P) {x:Ent} {v:Vp} (D:P.next<1000000000) (t:P.l.length<16) (c:CI s' G') (k:s'.vols=s.vols++ [(s.next,{x with id:=s.next,born:=s.epoch})]) (C: ∀p∈s.vols,a0Z G' p.2.root=a0Z G p.2.root)
 (r:s'.next=m0Z (s.next+1)) (u:s'.epoch=s.epoch) (A:s'.bits=s.bits) (j:x.parent=v.parent∧x.only=v.only∧x.size=v.size∧l0K v.m (a0Z G' x.root)):J s' G' (g0M P v).1:=by
 have o:=h.pos;unfold g0M;rw[if_neg (by omega)];have g:a0C s.next s.vols=none:=by
  cases e:a0C s.next s.vols with
  |none=>rfl
  |some y=>
   obtain⟨w,d,n⟩:=h.back _ (h.ci.mem e);have:=(h.ids w d).2;simp only at n;rw[h.next]at n;omega
 refine⟨c,?_,by show 1≤P.next+1;omega,A.trans h.bits,u.trans h.epoch,?_,?_,fun w d=> ?_,fun w d=> ?_,fun p i=> ?_⟩
 ·show s'.next=P.next+1;rw[r,h.next];unfold m0Z;omega
 ·rw[k];simp[h.len]
 ·refine List.pairwise_append.2 ⟨h.ord,List.pairwise_singleton _ _,fun a B b hb=> ?_⟩;rw[List.mem_singleton.1 hb];exact(h.ids a B).2
 ·rcases List.mem_append.1 d with d|d
  ·have:=h.ids w d;exact⟨this.1,by show w.id<P.next+1;omega⟩
  ·rw[List.mem_singleton.1 d];exact⟨h.pos,by show P.next<P.next+1;omega⟩
 ·rw[k];rcases List.mem_append.1 d with d|d
  ·obtain⟨z,q,f⟩:=h.vol w d;refine⟨z,by rw[j1I,q],f.parent,f.only,f.size,f.born,?_⟩;rw[C _ (h.ci.mem q)];exact f.map
  ·rw[List.mem_singleton.1 d];refine⟨{x with id:=s.next,born:=s.epoch},?_,j.1,j.2.1,j.2.2.1,h.epoch,j.2.2.2⟩;show a0C P.next _=_;rw[j1I,←h.next,g];simp
 ·rw[k]at i;rcases List.mem_append.1 i with i|i
  ·obtain⟨w,d,e⟩:=h.back p i;exact⟨w,List.mem_append_left _ d,e⟩
  ·rw[List.mem_singleton.1 i];exact⟨_,List.mem_append_right _ (List.mem_singleton.2 rfl),h.next.symm⟩
end
end
end Go.Sb

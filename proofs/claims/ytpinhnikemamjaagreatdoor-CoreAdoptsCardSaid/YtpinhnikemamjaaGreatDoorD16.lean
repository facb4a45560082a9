/- Part of the proof; no statement of its own. -/
import Derived.Test.YtpinhnikemamjaaGreatDoorD15
set_option linter.all false
set_option maxRecDepth 4000
set_option maxHeartbeats 4000000
namespace Go.Sb
section
def rp0 (bits:Nat):Rp:= {l:= [],next:=1,bits:=bits,epoch:=1}
theorem q1D (P:Rp) (v:Vp):(g0M P v).1.bits=P.bits:=by unfold g0M;split<;>rfl
theorem y1S (P:Rp) (n:Int):(e0R P n).1.bits=P.bits:=by
 unfold e0R;split
 ·rfl
 ·exact q1D _ _
theorem j2V (P:Rp) (id:Int) (o:Bool):(i0P P id o).1.bits=P.bits:=by
 unfold i0P;split
 ·rfl
 ·exact q1D _ _
theorem y1T (P:Rp) (id:Int):(g0R P id).1.bits=P.bits:=by unfold g0R;split<;>rfl
theorem e2V (id at_:Int) (data:B) (P:Rp):(i0Y P id at_ data).1.bits=P.bits:=by
 cases a:c0Q P.l id with
 |none=>unfold i0Y;rw[a]
 |some i=>
  obtain⟨hi,_⟩:=i0Q a;rw[v0V a]
  repeat' split
  all_goals first|rfl| (simp only;obtain⟨m,e⟩:=m0U i data.length P at_.toNat data hi;rw[e];rfl)
theorem j2W (id at_ n:Int) (P:Rp):(l0S P id at_ n).1.bits=P.bits:=by
 cases a:c0Q P.l id with
 |none=>unfold l0S;rw[a]
 |some i=>
  obtain⟨hi,_⟩:=i0Q a;rw[y0D a]
  repeat' split
  all_goals first|rfl| (obtain⟨m,e⟩:=k0P i P at_.toNat (at_+n).toNat hi;rw[e];rfl)
theorem y1U (id n:Int) (P:Rp):(g0S P id n).1.bits=P.bits:=by
 cases a:c0Q P.l id with
 |none=>unfold g0S;rw[a]
 |some i=>
  obtain⟨hi,_⟩:=i0Q a;rw[t0P a];have:(j0P P i n).1.bits=P.bits:=by
   unfold j0P;split
   ·obtain⟨m,e⟩:=k0P i P n.toNat (P.l.getD i v0).size.toNat hi;rw[e];rfl
   ·rfl
  repeat' split
  all_goals first|rfl|exact this
theorem x0J {P Q R:Rp} {p:Prop} [Decidable p] (h:Q=if p then R else P) (hb:R.bits=P.bits):Q.bits=P.bits:=by
 rw[h];split
 ·exact hb
 ·rfl
theorem c1K.bits_ {k:Nat} {id at_ n e f:Int} {data:B} {s t:St} {P Q:Rp} (h:c1K k id at_ n data s P e f t Q) (a:k<14):Q.bits=P.bits:=by
 have b:k=0∨(k=1∨k=2)∨k=3∨k=4∨(4<k∧k<9)∨(k=9∨k=10)∨k=11∨k=12∨k=13:=by omega
 rcases b with a|a|a|a|a|a|a|a|a
 ·obtain⟨_,_,_,_,_,c⟩:=h.k0 a;exact x0J c (y1S _ _)
 ·obtain⟨_,_,_,_,_,c⟩:=h.k1 a;exact x0J c (j2V _ _ _)
 ·exact x0J (h.k3 a).2.2 (y1T _ _)
 ·exact x0J (h.k4 a).2.2 (y1U _ _ _)
 ·exact x0J (h.k5 a).2.2 (e2V _ _ _ _)
 ·exact x0J (h.k9 a).2.2 (j2W _ _ _ _)
 ·rw[(h.k11 a).2.2]
 ·rw[(h.k12 a).2.2]
 ·rw[(h.k13 a).2.2]
section
variable {s:St} {G:Gh} {P:Rp}
theorem J.digest (h:J s G P) {v:Vp} (m:v∈P.l): ∃d:B,d.length=32∧w0M v.id s=(.ok (d,0),s)∧(∃x,a0C v.id s.vols=some x∧x.size=v.size∧x.only=v.only)∧
 ∀ {t:St} {G':Gh} {Q:Rp},J t G' Q→v∈Q.l→w0M v.id t=(.ok (d,0),t):=by
 obtain⟨x,f,c⟩:=h.vol v m;have g:=h.ci.kid _ (h.ci.mem f);refine⟨d0R G x.root,?_,h.sum f,⟨x,f,c.size,c.only⟩,fun {t G' Q} h' hv'=> ?_⟩
 ·unfold d0R;rcases g with b| ⟨n,o,a⟩
  ·have b:x.root=0:=b;rw[b,h.ci.inv.zero];simp[a0L]
  ·have a:a0C x.root G=some (.node 2 n o):=a;rw[a];simp only;rw[(h.ci.inv.typ _ _ a).2.2.2.2];exact t0M _ _
 ·obtain⟨y,i,e⟩:=h'.vol v hv';rw[h'.sum i];have k:a0Z G x.root=a0Z G' y.root:=by
   funext j;rw[c.map.eq,e.map.eq]
  rw[h.ci.inv.sumMap h'.ci.inv g (h'.ci.kid _ (h'.ci.mem i)) k]
theorem J.sized (h:J s G P): ∀v∈P.l,0≤v.size∧v.size≤2048:=fun v b=>by
 obtain⟨x,c,a⟩:=h.vol v b;have:=h.size c;have:=a.size;omega
end
end
section
def y0F (w:Nat) (f:Nat) (x:Lf):Bool:=decide (x.1/ (w:Int)*(w:Int)=(f:Int))
def dgF (j:Nat) (s:B) (x:Lf):B:=if x.1=(j:Int)then Sha.sum x.2 else s
def p0U (m:List Lf) (j:Nat):B:=m.foldl (dgF j) (a0L 32)
def dgR (m:List Lf):Nat→Nat→B
 |0,f=>e0H 0 ((List.range 8).map fun k=>p0U m (f+k))
 |l+1,f=>e0H (l+1) ((List.range 8).map fun k=>if m.any (y0F (8^(l+1)) (f+k*8^(l+1)))then dgR m l (f+k*8^(l+1))else a0L 32)
theorem c1L (j:Nat): ∀(m:List Lf) (s:B),((∃d,((j:Int),d)∈m∧m.foldl (dgF j) s=Sha.sum d)∨((∀x∈m,x.1≠(j:Int))∧m.foldl (dgF j) s=s))
 | [],s=> .inr ⟨fun x h=>(by cases h),rfl⟩
 |x::m,s=>by
  rw[List.foldl_cons];rcases c1L j m (dgF j s x)with ⟨d,h1,h2⟩| ⟨h1,h2⟩
  ·exact .inl ⟨d,List.mem_cons_of_mem _ h1,h2⟩
  ·by_cases e:x.1=(j:Int)
   ·exact .inl ⟨x.2,by rw[←e];exact List.mem_cons_self,by rw[h2];exact if_pos e⟩
   ·exact .inr ⟨fun y a=>(by rcases List.mem_cons.1 a with rfl|a;(exact e);exact h1 y a),by rw[h2];exact if_neg e⟩
theorem u2H (l:Nat):e0H l (List.replicate 8 (a0L 32))=a0L 32:=by
 unfold e0H;rw[if_pos];rw[List.all_eq_true];intro x a;rw[(List.mem_replicate.1 a).2];simp
section
variable {s:St} {G:Gh} {P:List Int}
theorem Inv.sum0 (h:Inv s G P):d0R G 0=a0L 32:=by unfold d0R;rw[h.zero]
theorem Inv.sumKids (h:Inv s G P) {l:Nat} {a:Int} (f:a0W G (l+1) a):d0R G a=e0H l ((b0G G a).map (d0R G)):=by
 rcases f with rfl| ⟨g,i,c⟩
 ·have e:b0G G 0=e0L:=by unfold b0G;rw[h.zero]
  have b:e0L.map (d0R G)=List.replicate 8 (a0L 32):=by
   have:=h.sum0;simp[e0L,this,List.replicate]
  rw[h.sum0,e,b,u2H]
 ·have d:d0R G a=i:=by unfold d0R;rw[c]
  have b:b0G G a=g:=by unfold b0G;rw[c]
  rw[d,b];exact(h.typ a _ c).2.2.2.2
theorem Inv.leafSumOf (h:Inv s G P) {m:List Lf} (k:m0R m) (l: ∀x∈m,a0R x.2=false) {a:Int} (f:a0W G 0 a) {j:Nat} (b:d0F G a=f0Y (j:Int) m):d0R G a=p0U m j:=by
 rcases c1L j m (a0L 32)with ⟨d,h1,h2⟩| ⟨h1,h2⟩
 ·have e:=j1L k.ord h1;simp only at e;rw[e]at b;have hd:=l _ h1;rcases f with rfl| ⟨g,t,c⟩
  ·unfold d0F at b;rw[h.zero]at b;simp only at b hd;rw[←b,d0N]at hd;cases hd
  ·unfold d0F at b;rw[c]at b;simp only at b;unfold d0R p0U;rw[c,h2,b]
 ·have e:f0Y (j:Int) m=a0L 256:=(p0M (j:Int) m).resolve_right fun i=>h1 _ i rfl;rw[e]at b;unfold p0U;rw[h2];rcases f with rfl| ⟨g,t,c⟩
  ·exact h.sum0
  ·exfalso;unfold d0F at b;rw[c]at b;have:=(h.typ _ _ c).2.1;simp only at b;rw[b,d0N]at this;cases this
theorem Inv.sumDoc (h:Inv s G P) {m:List Lf} (y:m0R m) (A: ∀x∈m,a0R x.2=false): ∀(l:Nat) {a:Int} (f:Nat),a0W G (l+1) a→f%8^(l+1)=0→(∀j,j<8^(l+1)→d0F G (c0P G l a j)=f0Y ((f+j:Nat):Int) m)→d0R G a=dgR m l f
 |l,a,f,ha,hf,he=>by
  obtain⟨v,w⟩:=h.kids ha;have c: ∀i (o:i<8),(b0G G a).getD i 0=(b0G G a)[i]'(by omega):=fun i o=>by rw[List.getD_eq_getElem?_getD,List.getElem?_eq_getElem];rfl
  rw[h.sumKids ha];cases l with
  |zero=>
   unfold dgR;congr 1;refine List.ext_getElem (by simp[v]) fun i o p=> ?_;rw[List.getElem_map,List.getElem_map,List.getElem_range];have hi:i<8:=by simpa using p
   refine h.leafSumOf y A (w _ (List.getElem_mem (by omega))) ?_;have:=he i (by simpa using hi);unfold c0P b0Q at this;simp only at this;rw[show i/8^0%8=i by omega,c i hi]at this;exact this
  |succ l=>
   unfold dgR;congr 1;refine List.ext_getElem (by simp[v]) fun i o p=> ?_;rw[List.getElem_map,List.getElem_map,List.getElem_range];have hi:i<8:=by simpa using p
   have b:=w _ (List.getElem_mem (l:=b0G G a) (n:=i) (by omega));have z:8^(l+1+1)=8*8^(l+1):=by rw[Nat.pow_succ];omega
   have g: ∀j,j<8^(l+1)→d0F G (c0P G l (b0G G a)[i] j)=f0Y ((f+i*8^(l+1)+j:Nat):Int) m:=fun j k=>by
    have D:i*8^(l+1)≤7*8^(l+1):=Nat.mul_le_mul_right _ (by omega);have:=he (i*8^(l+1)+j) (by rw[z];omega);rw[w0P hi k,c i hi]at this;rw[this,Nat.add_assoc]
   rw[z]at hf;have r:8^(l+1) ∣ f:=Nat.dvd_trans (Nat.dvd_mul_left _ _) (Nat.dvd_of_mod_eq_zero hf);obtain⟨q,B⟩:=r;have d:f+i*8^(l+1)=8^(l+1)*(q+i):=by rw[B,Nat.mul_add,Nat.mul_comm i]
   have C:0<8^(l+1):=Nat.pow_pos (by decide);split
   ·refine h.sumDoc y A l _ b ?_ g;rw[d];exact Nat.mul_mod_right _ _
   ·rename_i t;have u:(b0G G a)[i]=0:=h.noLeaf l b fun j k=>by
     rw[g j k];rcases p0M ((f+i*8^(l+1)+j:Nat):Int) m with e|e
     ·rw[e];exact d0N _
     ·exfalso;refine t (List.any_eq_true.2 ⟨_,e,?_⟩);unfold y0F;rw[decide_eq_true_eq];simp only;have:(f+i*8^(l+1)+j)/8^(l+1)*8^(l+1)=f+i*8^(l+1):=by
       rw[d,Nat.mul_add_div C,Nat.div_eq_of_lt k,Nat.add_zero,Nat.mul_comm]
      exact_mod_cast this
    rw[u];exact h.sum0
theorem Inv.sumMapR (h:Inv s G P) {m:List Lf} {a:Int} (c:a0W G 3 a) (b:l0K m (a0Z G a)):d0R G a=dgR m 2 0:=
 h.sumDoc b.ok b.nz 2 0 c rfl fun j d=>by
  have:=b.eq j;unfold a0Z at this;rw[if_pos d]at this;rw[this,Nat.zero_add]
end
end
section
def l0M (k:Int) (m:List (Int×Int)):List (Int×Int):=b0O k ((a0C k m).getD 0+1) m
def e2W (G:Gh) (a:Int):List Int:=match a0C a G with|some (.ext _ ats)=>ats|_=> []
def f0D (G:Gh):Nat→Int→List (Int×Int)→List (Int×Int)
 |0,a,m=>if a≤0∨0<(a0C a m).getD 0 then m else((e2W G a).filter (0< ·)).foldl (fun m k=>l0M k m) (l0M a m)
 |l+1,a,m=>if a=0∨0<(a0C a m).getD 0 then m else(b0G G a).foldl (fun m k=>f0D G l k m) (l0M a m)
theorem z0V (G:Gh) (l:Nat) (a:Int) (m:List (Int×Int)):f0D G (l+1) a m=if a=0∨0<(a0C a m).getD 0 then m else(b0G G a).foldl (fun m k=>f0D G l k m) (l0M a m):=rfl
def lev:Ob→Nat
 | .part _=>0
 | .ext _ _=>1
 | .node l _ _=>l+2
def Cls (G:Gh) (n:Nat) (S:List Int):Prop:= ∀x∈S,∀o,a0C x G=some o→lev o≤n→ ∀k∈d0O o,k≠0→k∈S
structure Rch (G:Gh) (n:Nat) (S T:List Int):Prop where
 sub: ∀x∈S,x∈T
 new: ∀x∈T,x∈S∨ ∃o,a0C x G=some o∧lev o≤n
 cls:Cls G n S→Cls G n T
theorem Rch.refl (G:Gh) (n:Nat) (S:List Int):Rch G n S S:=⟨fun _ h=>h,fun _ h=> .inl h,id⟩
theorem Rch.trans {G:Gh} {n:Nat} {S T U:List Int} (h:Rch G n S T) (k:Rch G n T U):Rch G n S U:=
 ⟨fun x a=>k.sub x (h.sub x a),fun x a=>(k.new x a).elim (h.new x) .inr,fun b=>k.cls (h.cls b)⟩
theorem Rch.step {G:Gh} {n:Nat} {S T:List Int} {a:Int} {o:Ob} (m:a0C a G=some o) (u:lev o=n+1) (h:Rch G n (a::S) T) (j: ∀k∈d0O o,k≠0→k∈T):Rch G (n+1) S T:=by
 refine⟨fun x i=>h.sub x (List.mem_cons_of_mem _ i),fun x i=> ?_,fun r x i o' d l k f c=> ?_⟩
 ·rcases h.new x i with b| ⟨o',b,q⟩
  ·rcases List.mem_cons.1 b with rfl|b
   ·exact .inr ⟨o,m,by omega⟩
   ·exact .inl b
  ·exact .inr ⟨o',b,by omega⟩
 ·by_cases e:lev o'≤n
  ·refine h.cls (fun y p t g s k j c=> ?_) x i o' d e k f c;rcases List.mem_cons.1 p with rfl|p
   ·rw[m]at g;cases g;omega
   ·exact List.mem_cons_of_mem _ (r y p t g (by omega) k j c)
  ·rcases h.new x i with b| ⟨v,b,q⟩
   ·rcases List.mem_cons.1 b with rfl|b
    ·rw[m]at d;cases d;exact j k f c
    ·exact h.sub _ (List.mem_cons_of_mem _ (r x b o' d l k f c))
   ·rw[d]at b;cases b;exact absurd q e
structure i0Z (G:Gh) (m:List (Int×Int)):Prop where
 ok:mok m
 pos: ∀p∈m,1≤p.2∧p.2≤5*(m.length:Int)
 held: ∀p∈m,(a0C p.1 G).isSome=true
theorem i0Z.len {G:Gh} {m:List (Int×Int)} (h:i0Z G m):m.length≤G.length:=by
 have:=List.Nodup.length_le_of_subset (l₁:=m.map (·.1)) (l₂:=G.map (·.1)) (show(m.map (·.1)).Nodup from h.ok) fun x c=>by
  obtain⟨p,b,rfl⟩:=List.mem_map.1 c;have:=h.held p b;exact Classical.byContradiction fun a=>by rw[z0A a]at this;cases this
 simpa using this
theorem u0M {K V:Type} [DecidableEq K] {k:K} {m:List (K×V)} :(a0C k m).isSome=true↔k∈m.map (·.1):=by
 induction m with
 |nil=>simp[a0C]
 |cons p m ih=>
  obtain⟨j,v⟩:=p;rw[d0G];by_cases e:j=k
  ·simp[e]
  ·rw[if_neg e,ih,List.map_cons,List.mem_cons];exact⟨.inr,fun h=>h.elim (fun h=>absurd h.symm e) id⟩
theorem i0Z.in_ {G:Gh} {m:List (Int×Int)} (h:i0Z G m) {a:Int} :0<(a0C a m).getD 0↔a∈m.map (·.1):=by
 rw[←u0M];cases e:a0C a m with
 |none=>simp
 |some v=>
  have:=h.pos _ ((e0D h.ok).1 e);simp only[Option.getD_some,Option.isSome_some,iff_true];simp only at this;omega
abbrev m0M (m:List (Int×Int)):List Int:=m.map (·.1)
theorem j1R {k v:Int} : ∀ {m:List (Int×Int)},(b0O k v m).length=if(a0C k m).isSome then m.length else m.length+1
 | []=>rfl
 | (j,u)::m=>by
  rw[d0G];by_cases e:j=k
  ·rw[if_pos e];subst e;simp[b0O]
  ·rw[if_neg e];have:= @j1R k v m;simp only[b0O,if_neg e,List.length_cons,this];split<;>rfl
theorem o1J {k v:Int} {p:Int×Int} : ∀ {m:List (Int×Int)},p∈b0O k v m→p=(k,v)∨p∈m
 | [],h=> .inl (List.mem_singleton.1 h)
 | (j,u)::m,h=>by
  by_cases e:j=k
  ·simp only[b0O,if_pos e]at h;rcases List.mem_cons.1 h with h|h
   ·exact .inl h
   ·exact .inr (List.mem_cons_of_mem _ h)
  ·simp only[b0O,if_neg e]at h;rcases List.mem_cons.1 h with h|h
   ·exact .inr (h▸List.mem_cons_self)
   ·exact(o1J h).imp id (List.mem_cons_of_mem _)
structure SB (G:Gh) (B:Int) (N:Nat) (m:List (Int×Int)):Prop where
 ok:mok m
 b0:0≤B
 pos: ∀p∈m,1≤p.2∧p.2≤B
 held: ∀p∈m,(a0C p.1 G).isSome=true
 len:N≤m.length
theorem SB.val {G:Gh} {B:Int} {N:Nat} {m:List (Int×Int)} (h:SB G B N m) (k:Int):0≤(a0C k m).getD 0∧(a0C k m).getD 0≤B:=by
 cases e:a0C k m with
 |none=>exact⟨Int.le_refl _,h.b0⟩
 |some v=>have:=h.pos _ ((e0D h.ok).1 e);simp only at this;simp only[Option.getD_some];omega
theorem i0Z.sb {G:Gh} {m:List (Int×Int)} (h:i0Z G m):SB G (5*m.length) m.length m:=⟨h.ok,by omega,h.pos,h.held,Nat.le_refl _⟩
theorem SB.see {G:Gh} {B:Int} {N:Nat} {m:List (Int×Int)} (h:SB G B N m) {k:Int} (b:(a0C k G).isSome=true):SB G (B+1) N (l0M k m):=by
 have c:=h.val k;have:=h.b0;refine⟨k0E _ _ h.ok,by omega,fun p a=> ?_,fun p a=> ?_,?_⟩
 ·rcases o1J a with rfl|a
  ·simp only;omega
  ·have:=h.pos p a;omega
 ·rcases o1J a with rfl|a
  ·exact b
  ·exact h.held p a
 ·unfold l0M;rw[j1R];have:=h.len;split<;>omega
theorem y0G {k x:Int} {m:List (Int×Int)} :x∈m0M (l0M k m)↔x=k∨x∈m0M m:=i1Z
theorem SB.sees {G:Gh} {N:Nat} : ∀(a:List Int) {B:Int} {m:List (Int×Int)},SB G B N m→(∀k∈a,(a0C k G).isSome=true)→SB G (B+a.length) N (a.foldl (fun m k=>l0M k m) m)∧ ∀x,x∈m0M (a.foldl (fun m k=>l0M k m) m)↔x∈a∨x∈m0M m
 | [],B,m,h,_=>⟨by simpa using h,fun x=>by simp⟩
 |k::a,B,m,h,hk=>by
  obtain⟨b,c⟩:=SB.sees a (h.see (hk k List.mem_cons_self)) fun x d=>hk x (List.mem_cons_of_mem _ d);rw[List.foldl_cons];refine⟨by rw[List.length_cons,show B+((a.length+1:Nat):Int)=B+1+(a.length:Int) by omega];exact b,fun x=> ?_⟩;rw[c,y0G,List.mem_cons];constructor
  ·rintro(h|h|h)
   ·exact .inl (.inr h)
   ·exact .inl (.inl h)
   ·exact .inr h
  ·rintro((h|h)|h)
   ·exact .inr (.inl h)
   ·exact .inl h
   ·exact .inr (.inr h)
theorem Rch.congr {G:Gh} {n:Nat} {S d T:List Int} (b: ∀x,x∈S↔x∈d) (h:Rch G n S T):Rch G n d T:=
 ⟨fun x a=>h.sub x ((b x).2 a),fun x a=>(h.new x a).imp (b x).1 id,fun e=>h.cls fun x a o i g k f c=>(b k).2 (e x ((b x).1 a) o i g k f c)⟩
theorem i0Z.first {G:Gh} {m:List (Int×Int)} (h:i0Z G m) {a:Int} (f:(a0C a G).isSome=true) (c:a ∉ m0M m):SB G (5*m.length+1) (m.length+1) (l0M a m):=by
 have e:a0C a m=none:=by
  cases e:a0C a m with
  |none=>rfl
  |some v=>exact absurd (u0M.1 (by rw[e];rfl)) c
 have d:SB G (5*m.length) m.length m:=⟨h.ok,by omega,h.pos,h.held,Nat.le_refl _⟩;have b:=d.see f;exact⟨b.ok,b.b0,b.pos,b.held,by unfold l0M;rw[j1R,e];simp⟩
theorem SB.seen {G:Gh} {B:Int} {N:Nat} {m:List (Int×Int)} (h:SB G B N m) (hb:B≤5*N):i0Z G m:=
 ⟨h.ok,fun p a=>⟨(h.pos p a).1,by have:=(h.pos p a).2;have:=h.len;omega⟩,h.held⟩
section
variable {s:St} {G:Gh} {P:List Int}
theorem Inv.kidOb (h:Inv s G P): ∀ {n:Nat} {a:Int},a0W G n a→a≠0→0<a∧ ∃o,a0C a G=some o∧lev o=n+1
 |0,a,hk,hne=>by obtain⟨d,t,b⟩:=hk.resolve_left hne;exact⟨(h.range b).1,_,b,rfl⟩
 |l+1,a,hk,hne=>by obtain⟨d,t,b⟩:=hk.resolve_left hne;exact⟨(h.range b).1,_,b,rfl⟩
theorem Inv.partOf (h:Inv s G P) {a:Int} {d:B} {ats:List Int} (g:a0C a G=some (.ext d ats)) {x:Int} (j:x∈ats) (c:x≠0):0<x∧ ∃b,a0C x G=some (.part b):=by
 obtain⟨_,_,l,i⟩:=h.typ a _ g;obtain⟨k,f,rfl⟩:=List.mem_iff_getElem.1 j;have:=i k (by omega);unfold v0S at this;have e:ats.getD k 0=ats[k]:=by rw[List.getD_eq_getElem?_getD,List.getElem?_eq_getElem f];rfl
 rw[e]at this;split at this
 ·exact absurd this c
 ·exact⟨(h.range this.2).1,_,this.2⟩
abbrev Seen (G:Gh) (n:Nat) (a:Int) (m t:List (Int×Int)):Prop:=i0Z G t∧Rch G (n+1) (m0M m) (m0M t)∧(a≠0→a∈m0M t)
theorem e1T {n:Nat} {f:Int→List (Int×Int)→List (Int×Int)} (g: ∀k m,a0W G n k→i0Z G m→Seen G n k m (f k m)): ∀(a:List Int) {m:List (Int×Int)},(∀k∈a,a0W G n k)→i0Z G m→
 i0Z G (a.foldl (fun m k=>f k m) m)∧Rch G (n+1) (m0M m) (m0M (a.foldl (fun m k=>f k m) m))∧ ∀k∈a,k≠0→k∈m0M (a.foldl (fun m k=>f k m) m)
 | [],m,_,hm=>⟨hm,Rch.refl _ _ _,fun k d=>(by cases d)⟩
 |k::a,m,d,hm=>by
  obtain⟨j,l,o⟩:=g k m (d k List.mem_cons_self) hm;obtain⟨h,e,i⟩:=e1T g a (fun x c=>d x (List.mem_cons_of_mem _ c)) j;rw[List.foldl_cons];refine⟨h,l.trans e,fun x c b=> ?_⟩;rcases List.mem_cons.1 c with rfl|c
  ·exact e.sub _ (o b)
  ·exact i x c b
theorem Inv.reach_ok (h:Inv s G P): ∀(n:Nat) (a:Int) (m:List (Int×Int)),a0W G n a→i0Z G m→Seen G n a m (f0D G n a m)
 |n,a,m,g,j=>by
  by_cases r:a=0
  ·subst r;have e:f0D G n 0 m=m:=by cases n<;>(unfold f0D;rw[if_pos];simp)
   rw[e];exact⟨j,Rch.refl _ _ _,fun h=>absurd rfl h⟩
  obtain⟨E,o,q,H⟩:=h.kidOb g r;by_cases v:a∈m0M m
  ·have e:f0D G n a m=m:=by cases n<;>(unfold f0D;rw[if_pos];exact .inr (j.in_.2 v))
   rw[e];exact⟨j,Rch.refl _ _ _,fun _=>v⟩
  have I: ¬0<(a0C a m).getD 0:=fun y=>v (j.in_.1 y);have C:=j.first (by rw[q];rfl) v;cases n with
  |zero=>
   obtain⟨d,ats,c⟩:=g.resolve_left r;rw[c]at q;cases q;have e:f0D G 0 a m=(ats.filter (0< ·)).foldl (fun m k=>l0M k m) (l0M a m):=by
    unfold f0D e2W;rw[if_neg (by omega),c]
   rw[e];have J:(ats.filter (0< ·)).length≤4:=by have:=List.length_filter_le (fun x:Int=>decide (0<x)) ats;have:=(h.typ a _ c).2.2.1;omega
   obtain⟨w,p⟩:=C.sees (ats.filter (0< ·)) fun k g=>by
    obtain⟨k1,A⟩:=List.mem_filter.1 g;obtain⟨_,b,hb⟩:=h.partOf c k1 (by simp at A;omega);rw[hb];rfl
   refine⟨w.seen (by omega),Rch.step c rfl ⟨fun x i=> ?_,fun x i=> ?_,fun _ x _ o q D k g _=> ?_⟩ fun k g z=> ?_,fun _=> ?_⟩
   ·rw[p,y0G];exact .inr (List.mem_cons.1 i)
   ·rw[p,y0G]at i;rcases i with i|i|i
    ·obtain⟨k1,A⟩:=List.mem_filter.1 i;obtain⟨_,b,hb⟩:=h.partOf c k1 (by simp at A;omega);exact .inr ⟨_,hb,Nat.le_refl _⟩
    ·exact .inl (i▸List.mem_cons_self)
    ·exact .inl (List.mem_cons_of_mem _ i)
   ·cases o with
    |part b=>cases g
    |ext d t=>exact absurd D (by simp[lev])
    |node l u t=>exact absurd D (by simp[lev])
   ·rw[p];have:=(h.partOf c g z).1;exact .inl (List.mem_filter.2 ⟨g,by simpa using this⟩)
   ·rw[p,y0G];exact .inr (.inl rfl)
  |succ l=>
   obtain⟨u,K,c⟩:=g.resolve_left r;rw[c]at q;cases q;have e:f0D G (l+1) a m=u.foldl (fun m k=>f0D G l k m) (l0M a m):=by
    have ek:b0G G a=u:=by unfold b0G;rw[c]
    rw[z0V,if_neg (fun y=>y.elim r I),ek]
   rw[e];obtain⟨w,p,F⟩:=e1T (n:=l) (f:=f0D G l) (fun k m g j=>h.reach_ok l k m g j) u (h.typ a _ c).2.2.2.1 (C.seen (by omega));have B:Rch G (l+1) (a::m0M m) (m0M (u.foldl (fun m k=>f0D G l k m) (l0M a m))):=p.congr fun x=>by rw[y0G,List.mem_cons]
   exact⟨w,Rch.step c rfl B F,fun _=>B.sub a List.mem_cons_self⟩
theorem u2I {x:Int} (b:mok G) (e:n0C G x≠0): ∃y o,a0C y G=some o∧x∈d0O o:=by
 have key: ∀L:Gh,(∀p∈L,x ∉ d0O p.2)→n0C L x=0:=fun L=>by
  induction L with
  |nil=>intro _;rfl
  |cons p L ih=>
   intro hL;rw[o0L,ih fun q d=>hL q (List.mem_cons_of_mem _ d),List.count_eq_zero.2 (hL p List.mem_cons_self)]
 refine Classical.byContradiction fun a=>e (key G fun p c f=>a ⟨p.1,p.2,(e0D b).2 c,f⟩)
theorem Inv.atMost (h:Inv s G P):G.length≤65535:=by
 have b:=h.hi;have c:=h.cnt;have d:=List.count_le_length (a:=1) (l:=s.g);omega
theorem Inv.reach0 (h:Inv s G P) {a:Int} {d:B} {ats:List Int} (b:a0C a G=some (.ext d ats)) {m:List (Int×Int)} (c: ¬0<(a0C a m).getD 0):f0D G 0 a m=(ats.filter (0< ·)).foldl (fun m k=>l0M k m) (l0M a m):=by
 have:=(h.range b).1;unfold f0D e2W;rw[if_neg (by omega),b]
theorem Inv.allSeen (h:Inv s G P) {S:List Int} (m: ∀p∈P,p≠0→p∈S) (q:Cls G 4 S): ∀(n:Nat) (x:Int) (o:Ob),a0C x G=some o→4≤lev o+n→x∈S
 |n,x,o,ho,hl=>by
  have a:=h.ne0 ho;have i:=h.need_pos ho;unfold f0C at i;by_cases j:x∈P
  ·exact m x j a
  ·rw[List.count_eq_zero.2 j,Nat.zero_add]at i;obtain⟨y,c,f,e⟩:=u2I h.nod i;have g:lev o<lev c∧lev c≤4:=by
    cases c with
    |part b=>cases e
    |ext d ats=>
     obtain⟨_,b,hb⟩:=h.partOf f e a;rw[ho]at hb;cases hb;exact⟨by simp[lev],by simp[lev]⟩
    |node l ks sm=>
     obtain⟨t1,_,_,t,_⟩:=h.typ y _ f;obtain⟨_,u,k,r⟩:=h.kidOb (t x e) a;rw[ho]at k;cases k;exact⟨by rw[r];exact Nat.lt_succ_self _,by show l+2≤4;omega⟩
   cases n with
   |zero=>omega
   |succ n=>exact q y (h.allSeen m q n y c f (by omega)) c f g.2 x e a
theorem Inv.reachAll (h:Inv s G P) {roots:List Int} (c: ∀r∈roots,a0W G 3 r) (t: ∀p∈P,p∈roots):
 i0Z G (roots.foldl (fun m r=>f0D G 3 r m) [])∧(roots.foldl (fun m r=>f0D G 3 r m) []).length=s.g.count 1:=by
 have q:i0Z G []:=⟨List.nodup_nil,fun p b=>(by cases b),fun p b=>(by cases b)⟩;obtain⟨i,j,l⟩:=e1T (n:=3) (f:=f0D G 3) (fun k m c u=>h.reach_ok 3 k m c u) roots c q;refine⟨i,Nat.le_antisymm (h.cnt▸i.len) ?_⟩;have a:=h.allSeen (fun p b d=>l p (t p b) d) (j.cls fun x e=>(by cases e));have:=List.Nodup.length_le_of_subset (l₁:=G.map (·.1)) (l₂:=m0M (roots.foldl (fun m r=>f0D G 3 r m) [])) (show(G.map (·.1)).Nodup from h.nod) fun x e=>by
  obtain⟨o,v⟩:=Option.isSome_iff_exists.1 (u0M.2 e);exact a 4 x o v (by omega)
 rw[←h.cnt];simpa using this
end
end
section
section
variable {s:St} {G:Gh} {P:Rp}
theorem J.readIn (h:J s G P) {id at_ n:Int} {i:Nat} (c:c0Q P.l id=some i) (hb:m0Q (P.l.getD i v0) at_ n=false):n0Y id at_ n s=(.ok (m0A P id at_ n),s):=by
 obtain⟨hi,x,k,e,d⟩:=h.found c;have j:=h.size e;have b: ¬(at_<0∨n<0∨(P.l.getD i v0).size<at_∨(P.l.getD i v0).size-at_<n):=fun f=>by unfold m0Q at hb;rw[decide_eq_true f]at hb;cases hb
 have g:=d.size;have a:=h.ci.read (at_:=at_.toNat) (n:=n.toNat) e (by omega);rw[Int.toNat_of_nonneg (by omega),Int.toNat_of_nonneg (by omega)]at a;rw[a,j1Q d.map _ _ _ (Nat.le_refl _)];unfold m0A;rw[c];simp only;rw[if_neg (by rw[hb];decide)]
theorem J.findOf (h:J s G P) {j:Nat} (a:j<P.l.length):c0Q P.l P.l[j].id=some j:=by
 unfold c0Q;rw[List.findIdx?_eq_some_iff_getElem];exact⟨a,by simp,fun k b=>by simpa using e1S h.ord (by omega) a (by omega)⟩
theorem J.sumDoc (h:J s G P) {v:Vp} (c:v∈P.l):w0M v.id s=(.ok (dgR v.m 2 0,0),s):=by
 obtain⟨x,a,b⟩:=h.vol v c;rw[h.sum a,h.ci.inv.sumMapR (h.ci.kid _ (h.ci.mem a)) b.map]
theorem J.keys (h:J s G P) {xs:List Int} (d:xs.Perm (s.vols.map (·.1))) (j:xs.Pairwise (· < ·)):xs=P.l.map (·.id):=by
 have i:=h.ci.inv.u.m.vols;have f:(P.l.map (·.id)).Pairwise (· < ·):=List.pairwise_map.2 h.ord;refine List.Perm.eq_of_pairwise (le:=fun a b:Int=>a<b) (fun a b _ _ o q=>by omega) j f (d.trans ((List.perm_ext_iff_of_nodup i (f.imp fun h=>by omega)).2 fun k=> ?_));constructor
 ·intro c;obtain⟨p,d,rfl⟩:=List.mem_map.1 c;obtain⟨v,e,g⟩:=h.back p d;exact List.mem_map.2 ⟨v,e,g⟩
 ·intro c;obtain⟨v,e,rfl⟩:=List.mem_map.1 c;obtain⟨x,n,_⟩:=h.vol v e;exact List.mem_map.2 ⟨_,h.ci.mem n,rfl⟩
def y0H (s:St) (v:Vp):Int:=((a0C v.id s.vols).getD g0L).root
theorem J.rootKid (h:J s G P): ∀r∈P.l.map (y0H s),a0W G 3 r:=fun r b=>by
 obtain⟨v,c,rfl⟩:=List.mem_map.1 b;obtain⟨x,a,_⟩:=h.vol v c;unfold y0H;rw[a];exact h.ci.kid _ (h.ci.mem a)
theorem J.rootAll (h:J s G P): ∀p∈g0Q s,p∈P.l.map (y0H s):=fun p c=>by
 obtain⟨q,a,rfl⟩:=List.mem_map.1 c;obtain⟨v,d,b⟩:=h.back q a;refine List.mem_map.2 ⟨v,d,?_⟩;unfold y0H;rw[b,(e0D h.ci.inv.u.m.vols).2 (show(q.1,q.2)∈s.vols from a)];rfl
end
end
section
def SmV (v:Vp):Prop:=(0≤v.parent∧v.parent<32)∧0≤v.born∧v.born<256
structure Sml (P:Rp):Prop where
 vol: ∀v∈P.l,SmV v
 ep:0≤P.epoch∧P.epoch<256
section
variable {P:Rp}
theorem Sml.radd (h:Sml P) {v:Vp} (a:0≤v.parent∧v.parent<32):Sml (g0M P v).1:=by
 unfold Go.Sb.g0M;split
 ·exact h
 ·refine⟨fun u hu=> ?_,h.ep⟩;rcases List.mem_append.1 hu with hu|hu
  ·exact h.vol u hu
  ·rw[List.mem_singleton.1 hu];exact⟨a,h.ep⟩
theorem Sml.set (h:Sml P) {i:Nat} {v:Vp} (a:SmV v):Sml {P with l:=P.l.set i v} :=⟨fun u hu=>by
 rcases List.mem_or_eq_of_mem_set hu with hu|rfl
 ·exact h.vol u hu
 ·exact a,h.ep⟩
theorem smV0:SmV v0:=⟨⟨Int.le_refl _,by decide⟩,Int.le_refl _,by decide⟩
theorem Sml.at_ (h:Sml P) (i:Nat):SmV (P.l.getD i v0):=by
 rw[List.getD_eq_getElem?_getD];cases e:P.l[i]? with
 |none=>exact smV0
 |some v=>exact h.vol v (List.mem_of_getElem? e)
theorem Sml.with_ (h:Sml P) (i:Nat) (m:List Lf):Sml (d0K P i m):=h.set (v:= {P.l.getD i v0 with m:=m}) (h.at_ i)
theorem Sml.write (h:Sml P) (id at_:Int) (data:B):Sml (i0Y P id at_ data).1:=by
 cases a:c0Q P.l id with
 |none=>unfold i0Y;rw[a];exact h
 |some i=>
  obtain⟨hi,_⟩:=i0Q a;rw[v0V a]
  repeat' split
  all_goals first|exact h| (simp only;obtain⟨m,e⟩:=m0U i data.length P at_.toNat data hi;rw[e];exact h.with_ i m)
theorem Sml.trim (h:Sml P) (id at_ n:Int):Sml (l0S P id at_ n).1:=by
 cases a:c0Q P.l id with
 |none=>unfold l0S;rw[a];exact h
 |some i=>
  obtain⟨hi,_⟩:=i0Q a;rw[y0D a]
  repeat' split
  all_goals first|exact h| (obtain⟨m,e⟩:=k0P i P at_.toNat (at_+n).toNat hi;rw[e];exact h.with_ i m)
theorem Sml.resize (h:Sml P) (id n:Int):Sml (g0S P id n).1:=by
 cases a:c0Q P.l id with
 |none=>unfold g0S;rw[a];exact h
 |some i=>
  obtain⟨hi,_⟩:=i0Q a;rw[t0P a];have:Sml (j0P P i n).1:=by
   unfold j0P;split
   ·obtain⟨m,e⟩:=k0P i P n.toNat (P.l.getD i v0).size.toNat hi;rw[e];exact h.with_ i m
   ·exact h
  repeat' split
  all_goals first|exact h|exact this.set (this.at_ i)
theorem Sml.delete (h:Sml P) (id:Int):Sml (g0R P id).1:=by
 unfold g0R;split
 ·exact h
 ·exact⟨fun u hu=>h.vol u (List.mem_of_mem_eraseIdx hu),h.ep⟩
theorem a1T {P Q R:Rp} {p:Prop} [Decidable p] (h:Q=if p then R else P) (b:Sml R) (a:Sml P):Sml Q:=by
 rw[h];split
 ·exact b
 ·exact a
theorem c1K.sml {k:Nat} {id at_ n e f:Int} {data:B} {s t:St} {Q:Rp} (h:c1K k id at_ n data s P e f t Q) (a:k<14) (g:0≤id∧id<32) (b:Sml P):Sml Q:=by
 have c:k=0∨(k=1∨k=2)∨k=3∨k=4∨(4<k∧k<9)∨(k=9∨k=10)∨k=11∨k=12∨k=13:=by omega
 rcases c with a|a|a|a|a|a|a|a|a
 ·obtain⟨_,_,_,_,_,d⟩:=h.k0 a;refine a1T d ?_ b;unfold e0R;split
  ·exact b
  ·exact b.radd ⟨Int.le_refl (0:Int),(by decide:(0:Int)<32)⟩
 ·obtain⟨_,_,_,_,_,d⟩:=h.k1 a;refine a1T d ?_ b;unfold i0P;split
  ·exact b
  ·exact b.radd g
 ·exact a1T (h.k3 a).2.2 (b.delete _) b
 ·exact a1T (h.k4 a).2.2 (b.resize _ _) b
 ·exact a1T (h.k5 a).2.2 (b.write _ _ _) b
 ·exact a1T (h.k9 a).2.2 (b.trim _ _ _) b
 ·rw[(h.k11 a).2.2];exact b
 ·rw[(h.k12 a).2.2];exact⟨b.vol,by show 0≤n%256∧n%256<256;omega⟩
 ·rw[(h.k13 a).2.2];exact b
theorem sml0 (bits:Nat):Sml (rp0 bits):=⟨fun v a=>(by cases a),(by decide:(0:Int)≤1),(by decide:(1:Int)<256)⟩
end
end
end Go.Sb

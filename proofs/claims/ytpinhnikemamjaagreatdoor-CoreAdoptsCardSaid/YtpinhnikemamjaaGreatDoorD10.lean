/- Part of the proof; no statement of its own. -/
import Derived.Test.YtpinhnikemamjaaGreatDoorD09
set_option linter.all false
set_option maxRecDepth 4000
set_option maxHeartbeats 4000000
namespace Go.Sb
section
inductive Ob where
 |part (b:B)
 |ext (data:B) (ats:List Int)
 |node (l:Nat) (kids:List Int) (sum:B)
abbrev Gh:=List (Int×Ob)
def d0O:Ob→List Int
 | .part _=> []
 | .ext _ ats=>ats
 | .node _ kids _=>kids
def n0C (G:Gh) (a:Int):Nat:=(G.map fun p=>(d0O p.2).count a).sum
def f0C (G:Gh) (P:List Int) (a:Int):Nat:=P.count a+n0C G a
def d0R (G:Gh) (a:Int):B:=match a0C a G with|some (.ext d _)=>Sha.sum d|some (.node _ _ s)=>s|_=>a0L 32
def m0K (data:B) (ats:List Int):Hd:= {at_:=ats,sums:=(List.range 4).map fun k=>if a0R (part data k)then 0 else g0G (part data k),sum:=Sha.sum data}
def l0J:Ob→B
 | .part b=>b
 | .ext d ats=>h0Z (m0K d ats)
 | .node l kids s=>j0L l {kids:=kids,sum:=s}
def a0W (G:Gh):Nat→Int→Prop
 |0,a=>a=0∨ ∃d ats,a0C a G=some (.ext d ats)
 |l+1,a=>a=0∨ ∃ks s,a0C a G=some (.node l ks s)
def v0S (G:Gh) (d:B) (ats:List Int) (k:Nat):Prop:=if a0R (part d k)=true then ats.getD k 0=0 else ats.getD k 0≠0∧a0C (ats.getD k 0) G=some (.part (part d k))
def x0X (G:Gh):Ob→Prop
 | .part b=>b.length=64
 | .ext d ats=>d.length=256∧a0R d=false∧ats.length=4∧ ∀k,k<4→v0S G d ats k
 | .node l kids s=>l<3∧kids.length=8∧kids≠e0L∧(∀k∈kids,a0W G l k)∧s=e0H l (kids.map (d0R G))
structure Inv (s:St) (G:Gh) (P:List Int):Prop where
 u:UOK s
 nod:mok G
 lo:s.fr=2
 hi:s.fr+s.g.length≤65535
 refs: ∀a,a≠0→a0C a s.refs=if f0C G P a=0 then none else some (f0C G P a:Int)
 live: ∀a,a≠0→(f0C G P a≠0↔(a0C a G).isSome=true)
 zero:a0C 0 G=none
 held: ∀a,isB s.fr s.g a 1=true↔(a0C a G).isSome=true
 disk: ∀a o,a0C a G=some o→n0A s.d a.toNat=l0J o
 typ: ∀a o,a0C a G=some o→x0X G o
 cnt:G.length=s.g.count 1
 lone: ∀a b,a0C a G=some (.part b)→f0C G P a=1
def Idx (s:St) (G:Gh):Prop:= ∀k a,a0C k s.index=some a↔ ∃d ats,a0C a G=some (.ext d ats)∧k=key s.bits (Sha.sum d)
theorem o0L (a:Int) (o:Ob) (G:Gh) (x:Int):n0C ((a,o)::G) x=(d0O o).count x+n0C G x:=by simp[n0C]
theorem b1W {a:Int} {o:Ob} : ∀ {G:Gh},mok G→a0C a G=some o→ ∀x,n0C G x=(d0O o).count x+n0C (b0D a G) x
 | [],_,h,_=>by simp[a0C]at h
 | (i,u)::G,hm,h,x=>by
  have b:i ∉ G.map (·.1)∧mok G:=by simpa [mok] using hm
  by_cases e:i=a
  ·subst e;simp only[a0C,if_pos,Option.some.injEq]at h;subst h;simp[b0D,o0L]
  ·simp only[a0C,if_neg e]at h;simp only[b0D,if_neg e,o0L,b1W b.2 h x];omega
theorem t0L {a:Int} {o:Ob} {x:Int} : ∀ {G:Gh},a0C a G=some o→x∈d0O o→n0C G x≠0
 | [],h,_=>by simp[a0C]at h
 | (i,u)::G,h,hx=>by
  rw[o0L];by_cases e:i=a
  ·subst e;simp only[a0C,if_pos,Option.some.injEq]at h;subst h;have:=List.count_pos_iff.2 hx;omega
  ·simp only[a0C,if_neg e]at h;have:=t0L h hx;omega
theorem t1P {K V:Type} [DecidableEq K] {k:K} {v:V} : ∀ {m:List (K×V)},a0C k m=some v→(b0D k m).length+1=m.length
 | [],h=>by simp[a0C]at h
 | (i,u)::m,h=>by
  by_cases e:i=k
  ·subst e;simp[b0D]
  ·simp only[a0C,if_neg e]at h;simp[b0D,e,t1P h]
theorem b1X {l:B} {n:Nat} (h:a0R l=true) (a:l.length=n):l=a0L n:=by
 subst a;unfold a0R at h;rw[List.all_eq_true]at h;exact List.eq_replicate_iff.2 ⟨rfl,fun x b=>by simpa using h x b⟩
theorem j0M (n:Nat):(a0L n).length=n:=by simp[a0L]
theorem b2G (v:List Sha.W) (k w:Sha.W):(Sha.rnd v k w).length=8:=rfl
theorem t1Q (w v:List Sha.W) (h:v.length=8): ∀n,(Sha.j0U w v n).length=8
 |0=>h
 |_+1=>rfl
theorem b2H {h:List Sha.W} (a:h.length=8) (b:B):(Sha.mix h b).length=8:=by
 unfold Sha.mix;rw[List.length_zipWith,t1Q _ _ a,a];rfl
theorem p1U: ∀(n:Nat) {h:List Sha.W} (_:h.length=8) (b:B),(Sha.f0J n h b).length=8
 |0,_,hh,_=>hh
 |n+1,_,hh,b=>p1U n (b2H hh _) _
theorem p0Z (b:B):(Sha.sum b).length=32:=by
 unfold Sha.sum;rw[i0J (k:=4) fun _=>rfl,p1U _ rfl]
theorem t0M (l:Nat) (ss:List B):(e0H l ss).length=32:=by
 unfold e0H;split
 ·exact j0M 32
 ·exact p0Z _
theorem j1F {d:B} {k:Nat} (hd:d.length=256) (a:k<4):(part d k).length=64:=by unfold part;simp;omega
section
variable {s:St} {G:Gh} {P:List Int}
theorem Inv.ne0 (h:Inv s G P) {a:Int} {o:Ob} (b:a0C a G=some o):a≠0:=by
 rintro rfl;rw[h.zero]at b;cases b
theorem Inv.range (h:Inv s G P) {a:Int} {o:Ob} (b:a0C a G=some o):0<a∧a<65536∧(s.fr:Int)≤a∧a<s.d.l.length:=by
 have c:=n0O.1 ((h.held a).2 (by rw[b];rfl));have e:=h.u.size;have f:=h.hi;have g:=h.lo;omega
theorem Inv.refsOf (h:Inv s G P) {a:Int} (b:a≠0):c0N s a=f0C G P a:=by
 unfold Go.Sb.c0N;rw[h.refs a b];by_cases e:f0C G P a=0
 ·simp[e]
 ·simp[e]
theorem Inv.need_pos (h:Inv s G P) {a:Int} {o:Ob} (b:a0C a G=some o):f0C G P a≠0:=(h.live a (h.ne0 b)).2 (by rw[b];rfl)
theorem Inv.get (h:Inv s G P) {a:Int} {o:Ob} (b:a0C a G=some o):g0X a s=(.ok (l0J o),s):=by
 have c:=h.refsOf (h.ne0 b);have d:=h.need_pos b;have e:=h.range b;unfold g0X;rw[if_neg (by omega)];unfold n0U;rw[h.u.run.2];simp only[Bool.false_eq_true,if_false];rw[if_neg (by omega)];have:=h.disk a o b;unfold n0A at this;rw[this]
theorem Inv.kid_range (h:Inv s G P) {l:Nat} {a:Int} (c:a0W G l a):0≤a∧a<65536:=by
 cases l with
 |zero=>
  rcases c with rfl| ⟨d,ats,b⟩
  ·omega
  ·have:=h.range b;omega
 |succ l=>
  rcases c with rfl| ⟨d,ats,b⟩
  ·omega
  ·have:=h.range b;omega
theorem Inv.load (h:Inv s G P) {a:Int} {l:Nat} {kids:List Int} {sum:B} (b:a0C a G=some (.node l kids sum)):load a l s=(.ok {kids:=kids,sum:=sum},s):=by
 obtain⟨t1,d,g,e,f⟩:=h.typ a _ b;have hb:=b2F (x:= {kids:=kids,sum:=sum}) (l:=l) (by omega) ⟨d,fun x c=>h.kid_range (e x c),by rw[f];exact t0M _ _⟩;unfold Go.Sb.load;rw[if_neg (h.ne0 b),a0A (h.get b)];show(g0C l (j0L l _),s)=_;rw[hb.1]
theorem z2P (l:Nat) (s:St):load 0 l s=(.ok {kids:=e0L,sum:=a0L 32},s):=by unfold load;rw[if_pos rfl];rfl
theorem x2R (h:Inv s G P) {a:Int} {d:B} {ats:List Int} (j:a0C a G=some (.ext d ats)):HdOK (m0K d ats):=by
 obtain⟨t1,o,m,n⟩:=h.typ a _ j;refine⟨m,fun x l=> ?_,by simp[m0K],fun c g=> ?_,p0Z _⟩
 ·have f:x∈ats:=l;obtain⟨k,i,rfl⟩:=List.getElem_of_mem f;have b:k<4:=by omega
  have e:ats.getD k 0=ats[k]:=by rw[List.getD_eq_getElem?_getD,List.getElem?_eq_getElem i];rfl
  have:=n k b;unfold v0S at this;rw[e]at this;show 0≤ats[k]∧ats[k]<65536;split at this
  ·omega
  ·have:=h.range this.2;omega
 ·obtain⟨k,_,rfl⟩:=List.mem_map.1 g;split
  ·decide
  ·exact Nat.lt_of_lt_of_eq (g1P _) (by decide)
theorem Inv.xhead (h:Inv s G P) {a:Int} {d:B} {ats:List Int} (b:a0C a G=some (.ext d ats)):e0U a s=(.ok (m0K d ats),s):=by
 unfold Go.Sb.e0U;rw[a0A (h.get b)];show(i0B (h0Z _),s)=_;rw[(b2E (x2R h b)).1]
theorem Inv.xparts (h:Inv s G P) {a:Int} {d:B} {ats:List Int} (e:a0C a G=some (.ext d ats)): ∀n,n≤4→g0A (m0K d ats) n s=(.ok (d.drop (64*(4-n))),s)
 |0,_=>by
  have:=(h.typ a _ e).1;unfold Go.Sb.g0A;rw[List.drop_eq_nil_of_le (by omega)];rfl
 |n+1,hn=>by
  obtain⟨t1,k,l,j⟩:=h.typ a _ e;have i:=h.xparts e n (by omega);have b:=j (4- (n+1)) (by omega);have e0:part d (4- (n+1))++d.drop (64*(4-n))=d.drop (64*(4- (n+1))):=by
   rw[show 64*(4-n)=64*(4- (n+1))+64 by omega,←List.drop_drop];exact List.take_append_drop _ _
  have g:(m0K d ats).sums.getD (4- (n+1)) 0=if a0R (part d (4- (n+1)))then 0 else g0G (part d (4- (n+1))):=by
   have:n=0∨n=1∨n=2∨n=3:=by omega
   rcases this with rfl|rfl|rfl|rfl<;>rfl
  unfold Go.Sb.g0A;unfold v0S at b;have f:(if 0<(m0K d ats).at_.getD (4- (n+1)) 0 then a0B (g0X ((m0K d ats).at_.getD (4- (n+1)) 0)) fun s=>if g0G s≠(m0K d ats).sums.getD (4- (n+1)) 0 then n0L 11 else ret s else ret (a0L 64):M B) s=(.ok (part d (4- (n+1))),s):=by
   show(if 0<ats.getD (4- (n+1)) 0 then _ else _:M B) s=_;by_cases c:a0R (part d (4- (n+1)))=true
   ·rw[if_pos c]at b;rw[b,if_neg (by omega),b1X c (j1F t1 (by omega))];rfl
   ·rw[if_neg c]at b;have:=h.range b.2;rw[if_pos (by omega)];show a0B (g0X (ats.getD (4- (n+1)) 0)) _ s=_;rw[a0A (h.get b.2),g,if_neg c];show(if g0G (part d (4- (n+1)))≠g0G (part d (4- (n+1)))then n0L 11 else ret (part d (4- (n+1))):M B) s=_;rw[if_neg (by simp)];rfl
  simp only;rw[a0A f,a0A i,←e0];rfl
theorem Inv.xget (h:Inv s G P) {a:Int} {d:B} {ats:List Int} (b:a0C a G=some (.ext d ats)):l0D a s=(.ok d,s):=by
 unfold Go.Sb.l0D;rw[if_neg (h.ne0 b),a0A (h.xhead b),h.xparts b 4 (by omega)];rfl
theorem z2Q (s:St):l0D 0 s=(.ok (a0L 256),s):=by unfold l0D;rw[if_pos rfl];rfl
def d0F (G:Gh) (a:Int):B:=match a0C a G with|some (.ext d _)=>d|_=>a0L 256
theorem Inv.leaf (h:Inv s G P) {a:Int} (c:a0W G 0 a):Go.Sb.l0D a s=(.ok (d0F G a),s):=by
 rcases c with rfl| ⟨d,ats,b⟩
 ·rw[z2Q];unfold d0F;rw[h.zero]
 ·rw[h.xget b];unfold d0F;rw[b]
theorem Inv.xsum (h:Inv s G P) {a:Int} (c:a0W G 0 a):r0X a s=(.ok (d0R G a),s):=by
 unfold Go.Sb.r0X;rcases c with rfl| ⟨d,ats,b⟩
 ·rw[if_pos rfl];unfold d0R;rw[h.zero];rfl
 ·rw[if_neg (h.ne0 b),a0A (h.xhead b)];unfold d0R;rw[b];rfl
def b0G (G:Gh) (a:Int):List Int:=match a0C a G with|some (.node _ ks _)=>ks|_=>e0L
theorem Inv.loadK (h:Inv s G P) {a:Int} {l:Nat} (c:a0W G (l+1) a):Go.Sb.load a l s=(.ok {kids:=b0G G a,sum:=d0R G a},s):=by
 rcases c with rfl| ⟨d,e,b⟩
 ·rw[z2P];unfold b0G d0R;rw[h.zero]
 ·rw[h.load b];unfold b0G d0R;rw[b]
theorem j2H (G:Gh) (l:Nat): ∀k∈e0L,a0W G l k:=by
 intro k a;have:k=0:=by simpa [e0L] using a
 cases l<;>exact .inl this
theorem Inv.kids (h:Inv s G P) {a:Int} {l:Nat} (c:a0W G (l+1) a):(b0G G a).length=8∧ ∀k∈b0G G a,a0W G l k:=by
 rcases c with rfl| ⟨f,g,b⟩
 ·unfold b0G;rw[h.zero];exact⟨rfl,j2H G l⟩
 ·unfold b0G;rw[b];obtain⟨t1,d,i,e,j⟩:=h.typ a _ b;exact⟨d,e⟩
theorem g0Z {l:List Int} {i:Nat} (h:i<l.length):l.getD i 0∈l:=by
 rw[List.getD_eq_getElem?_getD,List.getElem?_eq_getElem h];exact List.getElem_mem h
def c0P (G:Gh):Nat→Int→Nat→Int
 |0,root,i=>(b0G G root).getD (b0Q 0 i).1 0
 |l+1,root,i=>c0P G l ((b0G G root).getD (b0Q (l+1) i).1 0) (b0Q (l+1) i).2
theorem q0A (l i:Nat):(b0Q l i).1<8:=by unfold b0Q;exact Nat.mod_lt _ (by decide)
theorem Inv.leafKid (h:Inv s G P): ∀(l:Nat) {root:Int} (_:a0W G (l+1) root) (i:Nat),a0W G 0 (c0P G l root i)
 |0,root,hr,i=>(h.kids hr).2 _ (g0Z (by rw[(h.kids hr).1];exact q0A 0 i))
 |l+1,root,hr,i=>h.leafKid l ((h.kids hr).2 _ (g0Z (by rw[(h.kids hr).1];exact q0A (l+1) i))) _
theorem Inv.rget (h:Inv s G P): ∀(l:Nat) {root:Int} (_:a0W G (l+1) root) (i:Nat),l0E l root i s=(.ok (c0P G l root i),s)
 |0,root,hr,i=>by unfold Go.Sb.l0E;rw[a0A (h.loadK hr)];rfl
 |l+1,root,hr,i=>by
  unfold Go.Sb.l0E;rw[a0A (h.loadK hr)];exact h.rget l ((h.kids hr).2 _ (g0Z (by rw[(h.kids hr).1];exact q0A (l+1) i))) _
theorem Inv.rsums (h:Inv s G P) (l:Nat): ∀ks:List Int,(∀k∈ks,a0W G l k)→h0F l ks s=(.ok (ks.map (d0R G)),s)
 | [],_=>rfl
 |k::ks,hk=>by
  have b:=h.rsums l ks fun x c=>hk x (List.mem_cons_of_mem _ c);have a:=hk k (List.mem_cons_self ..);unfold Go.Sb.h0F;cases l with
  |zero=>rw[a0A (h.xsum a),a0A b];rfl
  |succ l=>
   have e:(a0B (Go.Sb.load k l) fun x=>ret x.sum:M B) s=(.ok (d0R G k),s):=by rw[a0A (h.loadK a)];rfl
   simp only;rw[a0A e,a0A b];rfl
end
end
section
theorem d0G {K V:Type} [DecidableEq K] (k j:K) (v:V) (m:List (K×V)):a0C j ((k,v)::m)=if k=j then some v else a0C j m:=rfl
theorem p1V (a:Int): ∀ {G:Gh},(∀p∈G,(d0O p.2).length≤8)→n0C G a≤8*G.length
 | [],_=>by simp[n0C]
 | (i,o)::G,h=>by
  have d:=p1V a (G:=G) fun p c=>h p (List.mem_cons_of_mem _ c);have b:=h (i,o) (List.mem_cons_self ..);have e:(d0O o).count a≤(d0O o).length:=List.count_le_length;rw[o0L,List.length_cons];simp only at b;omega
theorem o1F {G:Gh} {o:Ob} (h:x0X G o):(d0O o).length≤8:=by
 cases o with
 |part b=>simp[d0O]
 |ext d ats=>have:=h.2.2.1;simp[d0O];omega
 |node l ks s=>have:=h.2.1;simp[d0O];omega
theorem e1K {x:Int} (a: -9223372036854775808≤x) (h:x<9223372036854775808):j0Z x=x:=by unfold j0Z;omega
theorem k0O (G:Gh) (P:List Int) (a x:Int):f0C G (a::P) x=f0C G P x+if a=x then 1 else 0:=by
 unfold f0C;rw[List.count_cons];by_cases e:a=x<;>simp[e]<;>omega
theorem t1R (G:Gh) (K P:List Int) (x:Int):f0C G (K++P) x=K.count x+f0C G P x:=by unfold f0C;rw[List.count_append];omega
section
variable {s:St} {G:Gh} {P:List Int}
theorem Inv.few (h:Inv s G P) (j:P.length≤1000000) (a:Int):f0C G P a≤2000000:=by
 have c:=p1V a (G:=G) fun p b=>o1F (h.typ p.1 p.2 ((e0D h.nod).2 b));have d:P.count a≤P.length:=List.count_le_length;have e:=h.cnt;have f:s.g.count 1≤s.g.length:=List.count_le_length;have i:=h.hi;unfold f0C;omega
theorem b2I {a k:Int} (b:mok G) (c:k≠a) {l:Nat} (h:a0W G l k):a0W (b0D a G) l k:=by
 cases l with
 |zero=>exact h.imp id fun⟨d,ats,e⟩=>⟨d,ats,by rw[c0L a k b,if_neg (Ne.symm c)];exact e⟩
 |succ l=>exact h.imp id fun⟨d,ats,e⟩=>⟨d,ats,by rw[c0L a k b,if_neg (Ne.symm c)];exact e⟩
theorem t2Y {a k:Int} (b:mok G) (c:k≠a):d0R (b0D a G) k=d0R G k:=by unfold d0R;rw[c0L a k b,if_neg (Ne.symm c)]
theorem x2S {a:Int} (f:mok G) {o:Ob} (g:a ∉ d0O o) (h:x0X G o):x0X (b0D a G) o:=by
 cases o with
 |part b=>exact h
 |ext d ats=>
  obtain⟨t1,n,p,q⟩:=h;refine⟨t1,n,p,fun k i=> ?_⟩;have:=q k i;unfold v0S at this ⊢;split at this
  ·rename_i m;rw[if_pos m];exact this
  ·rename_i m;rw[if_neg m];refine⟨this.1,?_⟩;have j:ats.getD k 0≠a:=fun e=>g (by show a∈ats;rw[←e];exact g0Z (by omega));rw[c0L a _ f,if_neg (Ne.symm j)];exact this.2
 |node l ks sm=>
  obtain⟨t1,n,p,q,r⟩:=h;refine⟨t1,n,p,fun k c=>b2I f (fun e=>g (by subst e;exact c)) (q k c),?_⟩;rw[r];congr 1;exact List.map_congr_left fun k c=>(t2Y f (fun e=>g (by subst e;exact c))).symm
theorem t2Z {a k:Int} {o:Ob} (b:a0C a G=none) {l:Nat} (h:a0W G l k):a0W ((a,o)::G) l k:=by
 have key: ∀u,a0C k G=some u→a0C k ((a,o)::G)=some u:=fun u e=>by
  rw[d0G,if_neg (fun c=>by rw[c]at b;rw[b]at e;cases e)];exact e
 cases l with
 |zero=>exact h.imp id fun⟨d,ats,e⟩=>⟨d,ats,key _ e⟩
 |succ l=>exact h.imp id fun⟨d,ats,e⟩=>⟨d,ats,key _ e⟩
theorem k0I {k:Int} {l:Nat} (h:a0W G l k):k=0∨(a0C k G).isSome=true:=by
 cases l with
 |zero=>exact h.imp id fun⟨d,ats,e⟩=>by rw[e];rfl
 |succ l=>exact h.imp id fun⟨d,ats,e⟩=>by rw[e];rfl
theorem u2A {a k:Int} {o:Ob} (h:k≠a):d0R ((a,o)::G) k=d0R G k:=by unfold d0R;rw[d0G,if_neg (Ne.symm h)]
theorem j2I {a:Int} {u:Ob} (i:a0C a G=none) (q:a≠0) {o:Ob} (h:x0X G o):x0X ((a,u)::G) o:=by
 have key: ∀k v,a0C k G=some v→a0C k ((a,u)::G)=some v:=fun k v e=>by
  rw[d0G,if_neg (fun p=>by rw[←p,i]at e;cases e)];exact e
 cases o with
 |part b=>exact h
 |ext d ats=>
  obtain⟨t1,m,n,c⟩:=h;refine⟨t1,m,n,fun k f=> ?_⟩;have:=c k f;unfold v0S at this ⊢;split at this
  ·rename_i j;rw[if_pos j];exact this
  ·rename_i j;rw[if_neg j];exact⟨this.1,key _ _ this.2⟩
 |node l ks sm=>
  obtain⟨t1,m,n,c,r⟩:=h;refine⟨t1,m,n,fun k g=>t2Z i (c k g),?_⟩;rw[r];congr 1;refine List.map_congr_left fun k g=>(u2A fun e=> ?_).symm;rcases k0I (c k g)with h0|h1
  ·exact q (e▸h0)
  ·rw[e,i]at h1;cases h1
theorem Inv.more (h:Inv s G P) {a:Int} {o:Ob} (d:a0C a G=some o) (f: ∀b,o≠ .part b) (hd:0<s.depth) (l:s.log.length<1000000000) (i:P.length≤1000000):
 ∃s',k0S a s=(.ok (),s')∧Inv s' G (a::P)∧Rel 1 0 s s'∧s'.index=s.index∧s'.keep=s.keep∧s'.vols=s.vols∧s'.next=s.next:=by
 have j:=h.need_pos d;have g:=h.refsOf (h.ne0 d);have k:=h.few i a;have e:k0S a s=(.ok (),{s with log:=bk s.depth s.log (.refs a (a0C a s.refs)),refs:=b0O a ((f0C G P a+1:Nat):Int) s.refs}):=by
  unfold k0S;rw[if_neg (by omega),g,e1K (by omega) (by omega)];simp[h0I,a0B,back,show ¬1000000000≤s.log.length by omega]
 have r:=b1U a s hd h.u (by rw[e];simp);rw[e]at r;refine⟨_,e,⟨r.ok,h.nod,h.lo,h.hi,fun x c=> ?_,fun x c=> ?_,h.zero,h.held,h.disk,h.typ,h.cnt,fun x b c=> ?_⟩,r,rfl,rfl,rfl,rfl⟩
 ·show a0C x (b0O a _ s.refs)=_;rw[f0N,k0O];by_cases e:a=x
  ·subst e;simp
  ·rw[if_neg e,if_neg e];exact h.refs x c
 ·rw[k0O];by_cases e:a=x
  ·subst e;simp[d]
  ·rw[if_neg e];exact h.live x c
 ·rw[k0O,if_neg (fun e=>by subst e;rw[d]at c;exact f b (Option.some.inj c))];exact h.lone x b c
theorem Inv.less2 {a:Int} (h:Inv s G (a::P)) {o:Ob} (d:a0C a G=some o) (hd:0<s.depth) (m:s.log.length<1000000000) (l:P.length<1000000) (g:f0C G P a≠0):
 ∃s',e0G a s=(.ok false,s')∧Inv s' G P∧Rel 4 0 s s'∧s'.index=s.index∧s'.keep=s.keep∧s'.vols=s.vols∧s'.next=s.next:=by
 have i:=h.refsOf (h.ne0 d);have j:=h.few (by simp;omega) a;have k:=h.range d;have f:=k0O G P a a;simp at f;have e:e0G a s=(.ok false,{s with log:=bk s.depth s.log (.refs a (a0C a s.refs)),refs:=b0O a (f0C G P a:Int) s.refs}):=by
  unfold e0G;rw[if_neg (by simp[inR];omega),if_neg (by omega),if_neg (by omega),i,f,show((f0C G P a+1:Nat):Int)-1=f0C G P a by omega,e1K (by omega) (by omega)];simp[h0I,a0B,back,show ¬1000000000≤s.log.length by omega,ret]
 have r:=x0W a s hd h.u (by rw[e];simp);rw[e]at r;refine⟨_,e,⟨r.ok,h.nod,h.lo,h.hi,fun x c=> ?_,fun x c=> ?_,h.zero,h.held,h.disk,h.typ,h.cnt,fun x b c=> ?_⟩,r,rfl,rfl,rfl,rfl⟩
 ·show a0C x (b0O a _ s.refs)=_;rw[f0N];by_cases e:a=x
  ·subst e;simp[g]
  ·rw[if_neg e];have:=h.refs x c;rw[k0O,if_neg e]at this;exact this
 ·by_cases e:a=x
  ·subst e;simp[d,g]
  ·have:=h.live x c;rw[k0O,if_neg e]at this;exact this
 ·have:=h.lone x b c;rw[k0O]at this;by_cases e:a=x
  ·subst e;rw[if_pos rfl]at this;omega
  ·rw[if_neg e]at this;exact this
theorem Inv.less1 {a:Int} (h:Inv s G (a::P)) {o:Ob} (i:a0C a G=some o) (hd:0<s.depth) (H:s.log.length+4<1000000000) (F:s.gone.length+1<1000000000) (j:f0C G P a=0):
 ∃s',e0G a s=(.ok true,s')∧Inv s' (b0D a G) (d0O o++P)∧Rel 4 0 s s'∧s'.index=s.index∧s'.keep=s.keep∧s'.vols=s.vols∧s'.next=s.next:=by
 have D:=h.refsOf (h.ne0 i);have E:=h.range i;have A:=k0O G P a a;simp only[if_true,j]at A;have p:=(h.held a).2 (by rw[i];rfl);have bl: ∀(log:List c0U) st,(bk s.depth log st).length=log.length+1:=fun log st=>by simp[bk,hd]
 have e: ∃v n t,e0G a s=(.ok true,{s with refs:=b0D a s.refs,g:=mvL s.fr s.g a 1 2,young:=v,gone:=n,log:=t}):=by
  unfold e0G;rw[if_neg (by simp[inR];omega),if_neg (by omega),if_pos (by omega)];have y:l0B a s=(.ok (),{s with log:=bk s.depth s.log (.refs a (a0C a s.refs)),refs:=b0D a s.refs}):=by
   simp[l0B,a0B,back,show ¬1000000000≤s.log.length by omega]
  rw[a0A y];have z:=u0J (s:= {s with log:=bk s.depth s.log (.refs a (a0C a s.refs)),refs:=b0D a s.refs,g:=mvL s.fr s.g a 1 2}) (.back a) (by simp only[bl];omega);rw[a0A (m:=fun s=>back (.back a) {s with g:=mvL s.fr s.g a 1 2}) z];by_cases q:0<h0Y s a
  ·have f:0<h0Y {s with log:=bk s.depth (bk s.depth s.log (.refs a (a0C a s.refs))) (.back a),refs:=b0D a s.refs,g:=mvL s.fr s.g a 1 2} a:=q;refine⟨b0D a s.young,s.gone++ [a],bk s.depth (bk s.depth (bk s.depth (bk s.depth s.log (.refs a (a0C a s.refs))) (.back a)) (.young a (a0C a s.young))) (.gone s.gone),?_⟩;have k:(fun s=>if 0<h0Y s a then a0B (f0M a) (fun _ s=>h0X (s.gone++ [a]) s) s else ret () s) {s with log:=bk s.depth (bk s.depth s.log (.refs a (a0C a s.refs))) (.back a),refs:=b0D a s.refs,g:=mvL s.fr s.g a 1 2} =
    (.ok (),{s with refs:=b0D a s.refs,g:=mvL s.fr s.g a 1 2,young:=b0D a s.young,gone:=s.gone++ [a],log:=bk s.depth (bk s.depth (bk s.depth (bk s.depth s.log (.refs a (a0C a s.refs))) (.back a)) (.young a (a0C a s.young))) (.gone s.gone)}):=by
    simp only[if_pos f];simp[f0M,h0X,a0B,back,bl,show ¬1000000000≤s.log.length+1+1 by omega,show ¬1000000000≤s.log.length+1+1+1 by omega,show ¬1000000000≤s.gone.length+1 by omega]
   rw[a0A k];rfl
  ·have f: ¬0<h0Y {s with log:=bk s.depth (bk s.depth s.log (.refs a (a0C a s.refs))) (.back a),refs:=b0D a s.refs,g:=mvL s.fr s.g a 1 2} a:=q;refine⟨s.young,s.gone,bk s.depth (bk s.depth s.log (.refs a (a0C a s.refs))) (.back a),?_⟩;have k:(fun s=>if 0<h0Y s a then a0B (f0M a) (fun _ s=>h0X (s.gone++ [a]) s) s else ret () s) {s with log:=bk s.depth (bk s.depth s.log (.refs a (a0C a s.refs))) (.back a),refs:=b0D a s.refs,g:=mvL s.fr s.g a 1 2} =
    (.ok (),{s with log:=bk s.depth (bk s.depth s.log (.refs a (a0C a s.refs))) (.back a),refs:=b0D a s.refs,g:=mvL s.fr s.g a 1 2}):=by
    simp only[if_neg f];rfl
   rw[a0A k];rfl
 obtain⟨v,n,t,e⟩:=e;have r:=x0W a s hd h.u (by rw[e];simp);rw[e]at r;have c: ∀x,f0C (b0D a G) (d0O o++P) x=f0C G P x:=fun x=>by
  rw[t1R];unfold f0C;rw[b1W h.nod i x];omega
 have l: ∀b u,a0C b G=some u→a ∉ d0O u:=fun b u hu C=>t0L hu C (by unfold f0C at j;omega);refine⟨_,e,⟨r.ok,k0F a h.nod,h.lo,by show s.fr+(mvL _ _ _ _ _).length≤_;rw[l0Q];exact h.hi,fun x d=> ?_,fun x d=> ?_,?_,fun x=> ?_,fun x u hu=> ?_,fun x u hu=> ?_,?_,fun x b d=> ?_⟩,r,rfl,rfl,rfl,rfl⟩
 ·show a0C x (b0D a s.refs)=_;rw[c0L a x h.u.m.refs,c];by_cases e:a=x
  ·subst e;simp[j]
  ·rw[if_neg e];have:=h.refs x d;rw[k0O,if_neg e]at this;exact this
 ·rw[c,c0L a x h.nod];by_cases e:a=x
  ·subst e;simp[j]
  ·rw[if_neg e];have:=h.live x d;rw[k0O,if_neg e]at this;exact this
 ·rw[c0L a 0 h.nod,if_neg (h.ne0 i)];exact h.zero
 ·show isB s.fr (mvL s.fr s.g a 1 2) x 1=true↔_;rw[l0F p,c0L a x h.nod];by_cases e:x=a
  ·simp[e]
  ·rw[if_neg e,if_neg (Ne.symm e)];exact h.held x
 ·rw[c0L a x h.nod]at hu;split at hu
  ·cases hu
  ·exact h.disk x u hu
 ·rw[c0L a x h.nod]at hu;split at hu
  ·cases hu
  ·exact x2S h.nod (l x u hu) (h.typ x u hu)
 ·show(b0D a G).length=(mvL s.fr s.g a 1 2).count 1;have:=t1P i;have B:=q0S (w:=2) (x:=1) p;have:=h.cnt;simp at B;omega
 ·rw[c];rw[c0L a x h.nod]at d;split at d
  ·cases d
  ·rename_i e;have:=h.lone x b d;rw[k0O,if_neg e]at this;exact this
theorem Inv.put {o:Ob} (h:Inv s G (d0O o++P)) (q:x0X G o) (n:(l0J o).length=64) (hd:0<s.depth) (L:s.log.length+4<1000000000) (H:s.keep<(a0Y s:Int)):
 ∃a s',e0S (l0J o) s=(.ok a,s')∧Inv s' ((a,o)::G) (a::P)∧Rel 3 1 s s'∧k0G s a∧s'.index=s.index∧s'.keep=s.keep∧s'.vols=s.vols∧s'.next=s.next:=by
 have K:=h.u.keep;obtain⟨i,t⟩:=a2Y (fr:=s.fr) (g:=s.g) (by unfold a0Y at H;omega);have bl: ∀(log:List c0U) st,(bk s.depth log st).length=log.length+1:=fun log st=>by simp[bk,hd]
 have M:=n0O.1 i;have I:=h.u.size;have J:=h.lo;have e: ∃A z,e0S (l0J o) s=(.ok (b0R s.fr s.g),{s with g:=h0M s.g,refs:=b0O (b0R s.fr s.g) 1 s.refs,young:=A,log:=z,d:= {s.d with l:=s.d.l.set (b0R s.fr s.g).toNat ((s.d.l.getD (b0R s.fr s.g).toNat ([],[])).1,l0J o++a0L (64- (l0J o).length))}}):=by
  refine⟨b0O (b0R s.fr s.g) 1 s.young,bk s.depth (bk s.depth (bk s.depth s.log (.give (b0R s.fr s.g))) (.refs (b0R s.fr s.g) (a0C (b0R s.fr s.g) s.refs))) (.young (b0R s.fr s.g) (a0C (b0R s.fr s.g) s.young)),?_⟩;unfold e0S;rw[if_neg (by omega)];have B:=u0J (s:= {s with g:=h0M s.g}) (.give (b0R s.fr s.g)) (by simp only;omega);simp only;rw[a0A (m:=fun s'=>back (.give (b0R s.fr s.g)) {s' with g:=h0M s'.g}) B];generalize b0R s.fr s.g=a at*
  have C:h0I a 1 {s with g:=h0M s.g,log:=bk s.depth s.log (.give a)} =(.ok (),{s with g:=h0M s.g,refs:=b0O a 1 s.refs,log:=bk s.depth (bk s.depth s.log (.give a)) (.refs a (a0C a s.refs))}):=by
   simp[h0I,a0B,back,bl,show ¬1000000000≤s.log.length+1 by omega]
  rw[a0A C];have D:m0E a 1 {s with g:=h0M s.g,refs:=b0O a 1 s.refs,log:=bk s.depth (bk s.depth s.log (.give a)) (.refs a (a0C a s.refs))} =(.ok (),{s with g:=h0M s.g,refs:=b0O a 1 s.refs,young:=b0O a 1 s.young,log:=bk s.depth (bk s.depth (bk s.depth s.log (.give a)) (.refs a (a0C a s.refs))) (.young a (a0C a s.young))}):=by
   simp[m0E,a0B,back,bl,show ¬1000000000≤s.log.length+1+1 by omega]
  rw[a0A D];have E:=j2F (b:=l0J o) h.u.run (a:=a) (by omega) (by omega);unfold a0B t0G;simp only[E];rfl
 obtain⟨A,z,e⟩:=e;have r:=a1P (l0J o) s hd h.u (by rw[e];simp);rw[e]at r;rw[t]at e r;have v:=i;have j:b0R s.fr s.g≠0:=by omega
 have f:a0C (b0R s.fr s.g) G=none:=by
  cases p:a0C (b0R s.fr s.g) G with
  |none=>rfl
  |some u=>exact absurd (a1N ((h.held _).2 (by rw[p];rfl)) i) (by decide)
 generalize b0R s.fr s.g=a at*
 have y:f0C G (d0O o++P) a=0:=by
  by_cases e:f0C G (d0O o++P) a=0
  ·exact e
  ·have:=(h.live a j).1 e;rw[f]at this;cases this
 have c: ∀x,f0C ((a,o)::G) (a::P) x=f0C G (d0O o++P) x+if a=x then 1 else 0:=fun x=>by
  rw[k0O,t1R];unfold f0C;rw[o0L];omega
 refine⟨a,_,e,⟨r.ok,?_,h.lo,by show s.fr+(mvL _ _ _ _ _).length≤_;rw[l0Q];exact h.hi,fun x k=> ?_,fun x k=> ?_,?_,fun x=> ?_,fun x u hu=> ?_,fun x u hu=> ?_,?_,fun x b k=> ?_⟩,r,i,rfl,rfl,rfl,rfl⟩
 ·show((a,o)::G).map (·.1) |>.Nodup;rw[List.map_cons,List.nodup_cons];refine⟨fun p=> ?_,h.nod⟩;obtain⟨⟨b,u⟩,hb,rfl⟩:=List.mem_map.1 p;rw[(e0D h.nod).2 hb]at f;cases f
 ·show a0C x (b0O a 1 s.refs)=_;rw[f0N,c];by_cases e:a=x
  ·subst e;simp[y]
  ·rw[if_neg e,if_neg e];exact h.refs x k
 ·rw[c,d0G];by_cases e:a=x
  ·subst e;simp
  ·rw[if_neg e,if_neg e];exact h.live x k
 ·rw[d0G,if_neg j];exact h.zero
 ·show isB s.fr (mvL s.fr s.g a 0 1) x 1=true↔_;rw[l0F v,d0G];by_cases e:x=a
  ·simp[e]
  ·rw[if_neg e,if_neg (Ne.symm e)];exact h.held x
 ·rw[d0G]at hu;show n0A {s.d with l:=_} x.toNat=_;unfold n0A;simp only[List.getD_eq_getElem?_getD];by_cases e:a=x
  ·subst e;simp only[if_true,Option.some.injEq]at hu;subst hu;rw[List.getElem?_set_self (by omega)];simp[n,a0L]
  ·rw[if_neg e]at hu;have:=h.range hu;rw[List.getElem?_set_ne (by omega)];have:=h.disk x u hu;unfold n0A at this;simpa only[List.getD_eq_getElem?_getD] using this
 ·rw[d0G]at hu;by_cases e:a=x
  ·subst e;simp only[if_true,Option.some.injEq]at hu;subst hu;exact j2I f j q
  ·rw[if_neg e]at hu;exact j2I f j (h.typ x u hu)
 ·show G.length+1=(mvL s.fr s.g a 0 1).count 1;have F:=q0S (w:=1) (x:=1) v;have:=h.cnt;simp at F;omega
 ·rw[d0G]at k;rw[c];by_cases e:a=x
  ·subst e;rw[y];simp
  ·rw[if_neg e]at k ⊢;rw[Nat.add_zero];exact h.lone x b k
end
end
section
structure d0J (c:Nat) (s:St):Prop where
 d:0<s.depth
 l:s.log.length+c+10<1000000000
 g:s.gone.length+c+10<1000000000
theorem Rel.len {c k:Nat} {s t:St} (h:Rel c k s t):t.log.length≤s.log.length+c:=by
 obtain⟨l,e,n,_⟩:=h.log;rw[e,List.length_append];omega
theorem d0J.go {c c' k:Nat} {s t:St} (h:d0J (c+c') s) (r:Rel c k s t):d0J c' t:=
 ⟨by rw[r.depth];exact h.d,by have:=r.len;have:=h.l;omega,by have:=r.gone;have:=h.g;omega⟩
theorem d0J.le {c c':Nat} {s:St} (h:d0J c s) (a:c'≤c):d0J c' s:=⟨h.d,by have:=h.l;omega,by have:=h.g;omega⟩
structure Stp (c k:Nat) (s:St) (G:Gh) (s':St) (G':Gh):Prop where
 rel:Rel c k s s'
 idx:Idx s' G'
 old: ∀b o,a0C b G'=some o→a0C b G=some o∨k0G s b
 keep:s'.keep=s.keep
 vols:s'.vols=s.vols
 next:s'.next=s.next
 safe:s.keep≤(a0Y s:Int)→s'.keep≤(a0Y s':Int)
theorem Stp.trans {c1 k1 c2 f:Nat} {s t u:St} {c d e:Gh} (h:Stp c1 k1 s c t d) (j:Stp c2 f t d u e):Stp (c1+c2) (k1+f) s c u e:=
 ⟨h.rel.trans j.rel,j.idx,fun b o hb=>by
  rcases j.old b o hb with a|a
  ·exact h.old b o a
  ·exact .inr (h.rel.free b a),j.keep.trans h.keep,j.vols.trans h.vols,j.next.trans h.next,fun g=>j.safe (h.safe g)⟩
theorem Stp.mono {c k c' k':Nat} {s t:St} {G G':Gh} (h:Stp c k s G t G') (a:c≤c') (b:k≤k'):Stp c' k' s G t G':=⟨h.rel.mono a b,h.idx,h.old,h.keep,h.vols,h.next,h.safe⟩
theorem g1Q {c:Nat} {s t:St} (r:Rel c 0 s t) (a:t.keep=s.keep):s.keep≤(a0Y s:Int)→t.keep≤(a0Y t:Int):=fun g=>by have:=r.room;omega
theorem Stp.refl {s:St} {G:Gh} {P:List Int} (h:Inv s G P) (hi:Idx s G):Stp 0 0 s G s G:=⟨Rel.refl h.u,hi,fun _ _ h=> .inl h,rfl,rfl,rfl,id⟩
section
variable {s:St} {G:Gh} {P:List Int}
theorem Inv.perm {Q:List Int} (h:Inv s G P) (d: ∀x,x≠0→P.count x=Q.count x):Inv s G Q:=
 ⟨h.u,h.nod,h.lo,h.hi,fun a c=>by have:=h.refs a c;unfold f0C at this ⊢;rw[←d a c];exact this,fun a c=>by have:=h.live a c;unfold f0C at this ⊢;rw[←d a c];exact this,
  h.zero,h.held,h.disk,h.typ,h.cnt,fun x b e=>by have:=h.lone x b e;unfold f0C at this ⊢;rw[←d x (h.ne0 e)];exact this⟩
theorem Inv.drop0 (h:Inv s G (0::P)):Inv s G P:=h.perm fun x a=>by rw[List.count_cons_of_ne (Ne.symm a)]
theorem Inv.add0 (h:Inv s G P):Inv s G (0::P):=h.perm fun x a=>by rw[List.count_cons_of_ne (Ne.symm a)]
theorem Inv.pend (h:Inv s G P) {x:Int} (b:x∈P) (a:x≠0):(a0C x G).isSome=true:=(h.live x a).1 (by have:=List.count_pos_iff.2 b;unfold f0C;omega)
def Sub (G' G:Gh):Prop:= ∀b o,a0C b G'=some o→a0C b G=some o
theorem Sub.refl (G:Gh):Sub G G:=fun _ _ h=>h
theorem Sub.trans {A B C:Gh} (h:Sub A B) (j:Sub B C):Sub A C:=fun b o hb=>j b o (h b o hb)
theorem a1Q {a:Int} (c:mok G):Sub (b0D a G) G:=fun b o h=>by
 rw[c0L a b c]at h;split at h
 ·cases h
 ·exact h
theorem x0H {G':Gh} (f:Sub G' G) {l:Nat} {k:Int} (h:a0W G l k) (b:k=0∨(a0C k G').isSome=true):a0W G' l k:=by
 rcases b with rfl|b
 ·cases l<;>exact .inl rfl
 ·obtain⟨o,c⟩:=Option.isSome_iff_exists.1 b;have a:=f k o c;cases l with
  |zero=>
   rcases h with rfl| ⟨d,ats,e⟩
   ·exact .inl rfl
   ·rw[e]at a;cases a;exact .inr ⟨d,ats,c⟩
  |succ l=>
   rcases h with rfl| ⟨d,ats,e⟩
   ·exact .inl rfl
   ·rw[e]at a;cases a;exact .inr ⟨d,ats,c⟩
theorem Inv.lessParts: ∀(ats:List Int) {s:St} {G:Gh},Inv s G (ats++P)→(∀x∈ats,x=0∨ ∃b,a0C x G=some (.part b))→d0J (ats.length*4) s→P.length+ats.length<1000000→
 ∃s' G',d0V j0K ats s=(.ok (),s')∧Inv s' G' P∧Rel (ats.length*4) 0 s s'∧Sub G' G∧(∀b o,a0C b G=some o→(∃x,o= .part x)∨a0C b G'=some o)∧s'.index=s.index∧s'.keep=s.keep∧s'.vols=s.vols∧s'.next=s.next
 | [],s,G,h,_,_,_=>⟨s,G,rfl,h,(Rel.refl h.u).mono (by simp) (by omega),Sub.refl G,fun _ _ h=> .inr h,rfl,rfl,rfl,rfl⟩
 |x::ats,s,G,h,ht,hr,hP=>by
  have a:d0J (4+ats.length*4) s:=hr.le (by simp;omega);simp only[List.length_cons]at hP;have one: ∃s1 r,j0K x s=(.ok (),s1)∧Inv s1 r (ats++P)∧Rel 4 0 s s1∧Sub r G∧(∀b o,a0C b G=some o→(∃x,o= .part x)∨a0C b r=some o)∧s1.index=s.index∧s1.keep=s.keep∧s1.vols=s.vols∧s1.next=s.next:=by
   rcases ht x (List.mem_cons_self ..)with rfl| ⟨b,hb⟩
   ·exact⟨s,G,by unfold j0K;rw[if_neg (by omega)];rfl,h.drop0,(Rel.refl h.u).mono (by omega) (by omega),Sub.refl G,fun _ _ h=> .inr h,rfl,rfl,rfl,rfl⟩
   ·have K:=h.range hb;by_cases A:f0C G (ats++P) x=0
    ·obtain⟨s1,j,f,i,k,m,n,p⟩:=h.less1 hb hr.d (by have:=a.l;omega) (by have:=a.g;omega) A;refine⟨s1,b0D x G,by unfold j0K;rw[if_pos (by omega),a0A j];rfl,f,i,a1Q h.nod,fun c o v=> ?_,k,m,n,p⟩;by_cases e:x=c
     ·subst e;rw[hb]at v;cases v;exact .inl ⟨b,rfl⟩
     ·rw[c0L x c h.nod,if_neg e];exact .inr v
    ·obtain⟨s1,j,f,i,k,m,n,p⟩:=h.less2 hb hr.d (by have:=a.l;omega) (by simp;omega) A;exact⟨s1,G,by unfold j0K;rw[if_pos (by omega),a0A j];rfl,f,i,Sub.refl G,fun _ _ h=> .inr h,k,m,n,p⟩
  obtain⟨s1,r,j,f,i,q,k1,k,m,n,p⟩:=one;obtain⟨J,D,E,F,I,z,H,p1,p2,p3,p4⟩:=Inv.lessParts ats f (fun y C=>by
   rcases ht y (List.mem_cons_of_mem _ C)with h0| ⟨b,hb⟩
   ·exact .inl h0
   ·have w:=h.ne0 hb;obtain⟨o,B⟩:=Option.isSome_iff_exists.1 (f.pend (List.mem_append_left _ C) w);have:=q y o B;rw[hb]at this;cases this;exact .inr ⟨b,B⟩) (a.go i) (by omega)
  refine⟨J,D,by unfold d0V;rw[a0A j,E],F,(i.trans I).mono (by simp;omega) (by omega),z.trans q,fun b o hb=> ?_,p1.trans k,p2.trans m,p3.trans n,p4.trans p⟩;rcases k1 b o hb with t|t
  ·exact .inl t
  ·exact H b o t
theorem z0B {d:B} {ats:List Int} (h:x0X G (.ext d ats)): ∀x∈ats,x=0∨ ∃b,a0C x G=some (.part b):=by
 obtain⟨t1,g,i,f⟩:=h;intro x c;obtain⟨k,a,rfl⟩:=List.getElem_of_mem c;have e:ats.getD k 0=ats[k]:=by rw[List.getD_eq_getElem?_getD,List.getElem?_eq_getElem a];rfl
 have:=f k (by omega);unfold v0S at this;rw[e]at this;split at this
 ·exact .inl this
 ·exact .inr ⟨_,this.2⟩
theorem Inv.xless {a:Int} (h:Inv s G (a::P)) (hi:Idx s G) (U:a0W G 0 a) (v:d0J 21 s) (Y:P.length+8<1000000):
 ∃s' G',g0O a s=(.ok (),s')∧Inv s' G' P∧Stp 21 0 s G s' G'∧Sub G' G:=by
 unfold Go.Sb.g0O;rcases U with rfl| ⟨d,ats,r⟩
 ·exact⟨s,G,by rw[if_pos rfl];rfl,h.drop0,(Stp.refl h hi).mono (by omega) (by omega),Sub.refl G⟩
 rw[if_neg (h.ne0 r),a0A (h.xhead r)];by_cases L:f0C G P a=0
 ·obtain⟨s1,H,O,z,Q,C,R,S⟩:=h.less1 r v.d (by have:=v.l;omega) (by have:=v.g;omega) L;rw[a0A H];have p:=h.typ a _ r;have N:a ∉ ats:=fun V=>t0L r V (by unfold f0C at L;omega);obtain⟨i,F,A,j,X,D,W,p1,p2,p3,p4⟩:=Inv.lessParts ats (s:=s1) (G:=b0D a G) (P:=P) O (fun x y=>by
   rcases z0B p x y with T| ⟨b,hb⟩
   ·exact .inl T
   ·exact .inr ⟨b,by rw[c0L a x h.nod,if_neg (fun(e:a=x)=>N (by subst e;exact y))];exact hb⟩) ((v.le (c':=4+ats.length*4) (by have:ats.length=4:=p.2.2.1;omega)).go z) (by have:ats.length=4:=p.2.2.1;omega)
  have q:Rel 20 0 s i:=(z.trans X).mono (by have:ats.length=4:=p.2.2.1;omega) (by omega);have B:d0J 1 i:=(v.le (by omega):d0J (20+1) s).go q;have I:h0O (key i.bits (Sha.sum d)) i=(.ok (),{i with log:=bk i.depth i.log (.index (key i.bits (Sha.sum d)) (a0C (key i.bits (Sha.sum d)) i.index)),index:=b0D (key i.bits (Sha.sum d)) i.index}):=by
   have:=B.l;simp[h0O,a0B,back,show ¬1000000000≤i.log.length by omega]
  have E:=e1J (key i.bits (Sha.sum d)) i B.d j.u (by rw[I];simp);rw[I]at E;have n:Sub F G:=D.trans (a1Q h.nod);refine⟨_,F,?_,⟨E.ok,j.nod,j.lo,j.hi,j.refs,j.live,j.zero,j.held,j.disk,j.typ,j.cnt,j.lone⟩,⟨(q.trans E).mono (by omega) (by omega),fun k b=> ?_,fun b o hb=> .inl (n b o hb),p2.trans C,p3.trans R,p4.trans S,g1Q (q.trans E) (p2.trans C)⟩,n⟩
  ·simp only[if_true];show a0B (d0V j0K ats) _ s1=_;rw[a0A A];exact I
  ·show a0C k (b0D (key i.bits (Sha.sum d)) i.index)=some b↔ ∃t f,a0C b F=some (.ext t f)∧k=key i.bits (Sha.sum t);rw[c0L _ k j.u.m.index,show i.bits=s.bits from q.bits,p1,Q];constructor
   ·intro w;split at w
    ·cases w
    ·rename_i M;obtain⟨t,f,hb,e⟩:=(hi k b).1 w;refine⟨t,f,?_,e⟩;have K:a≠b:=fun A=>by subst A;rw[r]at hb;cases hb;exact M e.symm
     rcases W b (.ext t f) (by rw[c0L a b h.nod,if_neg K];exact hb)with ⟨x,y⟩|y
     ·cases y
     ·exact y
   ·rintro⟨t,f,hb,e⟩;have J:=n b _ hb;have w:=(hi k b).2 ⟨t,f,J,e⟩;rw[if_neg]
    ·exact w
    ·intro A;have:=(hi (key s.bits (Sha.sum d)) a).2 ⟨d,ats,r,rfl⟩;rw[A,w]at this;cases this
     have:=D a _ hb;rw[c0L a a h.nod,if_pos rfl]at this;cases this
 ·obtain⟨s1,H,O,z,Q,C,R,S⟩:=h.less2 r v.d (by have:=v.l;omega) (by omega) L;rw[a0A H];exact⟨s1,G,rfl,O,⟨z.mono (by omega) (by omega),fun k b=>by rw[Q,z.bits];exact hi k b,fun _ _ h=> .inl h,C,R,S,g1Q z C⟩,Sub.refl G⟩
theorem Inv.rlessL {l:Nat} (c: ∀ {s:St} {G:Gh} {P:List Int} {a:Int},Inv s G (a::P)→Idx s G→a0W G l a→d0J (j0T l) s→P.length+8*(l+1)<1000000→ ∃s' G',g0P l a s=(.ok (),s')∧Inv s' G' P∧Stp (j0T l) 0 s G s' G'∧Sub G' G):
 ∀(b:List Int) {s:St} {G:Gh},Inv s G (b++P)→Idx s G→(∀k∈b,a0W G l k)→d0J (b.length*j0T l) s→P.length+b.length+8*(l+1)<1000000→
 ∃s' G',d0V (g0P l) b s=(.ok (),s')∧Inv s' G' P∧Stp (b.length*j0T l) 0 s G s' G'∧Sub G' G
 | [],s,G,h,hi,_,_,_=>⟨s,G,rfl,h,(Stp.refl h hi).mono (by simp) (by omega),Sub.refl G⟩
 |x::b,s,G,h,hi,hk,hr,hP=>by
  have d:d0J (j0T l+b.length*j0T l) s:=hr.le (by simp[Nat.succ_mul,Nat.add_comm]);simp only[List.length_cons]at hP;obtain⟨s1,t,n,i,t1,e⟩:=c (P:=b++P) h hi (hk x (List.mem_cons_self ..)) (d.le (by omega)) (by simp;omega);obtain⟨q,j,o,p,r,m⟩:=Inv.rlessL c b i t1.idx (fun y g=>x0H e (hk y (List.mem_cons_of_mem _ g)) (by
   by_cases f:y=0
   ·exact .inl f
   ·exact .inr (i.pend (List.mem_append_left _ g) f))) (d.go t1.rel) (by omega)
  exact⟨q,j,by unfold d0V;rw[a0A n,o],p,(t1.trans r).mono (by simp[Nat.succ_mul,Nat.add_comm]) (by omega),m.trans e⟩
theorem Inv.rless: ∀(l:Nat) {s:St} {G:Gh} {P:List Int} {a:Int},Inv s G (a::P)→Idx s G→a0W G l a→d0J (j0T l) s→P.length+8*(l+1)<1000000→
 ∃s' G',g0P l a s=(.ok (),s')∧Inv s' G' P∧Stp (j0T l) 0 s G s' G'∧Sub G' G
 |0,s,G,P,a,h,hi,m,j,u=>h.xless hi m j (by omega)
 |l+1,s,G,P,a,h,hi,m,j,u=>by
  unfold Go.Sb.g0P;rcases m with rfl| ⟨C,L,i⟩
  ·exact⟨s,G,by rw[if_pos rfl];rfl,h.drop0,(Stp.refl h hi).mono (by omega) (by omega),Sub.refl G⟩
  rw[if_neg (h.ne0 i),a0A (h.load i)];obtain⟨_,D,_,K,_⟩:=h.typ a _ i;have c:d0J (4+8*j0T l) s:=j;by_cases v:f0C G P a=0
  ·obtain⟨s1,r,y,f,z,p,A,B⟩:=h.less1 i j.d (by have:=c.l;omega) (by have:=c.g;omega) v;rw[a0A r];have w:a ∉ C:=fun q=>t0L i q (by unfold f0C at v;omega);have n:Idx s1 (b0D a G):=fun k b=>by
    rw[z,f.bits,hi k b];constructor
    ·rintro⟨d,ats,hb,e⟩;refine⟨d,ats,?_,e⟩;rw[c0L a b h.nod,if_neg (fun t=>by rw[←t,i]at hb;cases hb)];exact hb
    ·rintro⟨d,ats,hb,e⟩;exact⟨d,ats,a1Q h.nod b _ hb,e⟩
   obtain⟨J,F,t,I,E,H⟩:=Inv.rlessL (l:=l) (fun h hi m j u=>Inv.rless l h hi m j u) C (s:=s1) (G:=b0D a G) (P:=P) y n (fun k q=>b2I h.nod (fun(e:k=a)=>w (by subst e;exact q)) (K k q)) (by rw[D];exact c.go f) (by omega);rw[D]at E;have x:Stp 4 0 s G s1 (b0D a G):=⟨f,n,fun b o hb=> .inl (a1Q h.nod b o hb),p,A,B,g1Q f p⟩;exact⟨J,F,by simp only[if_true];exact t,I,(x.trans E).mono (by simp only[j0T];omega) (by omega),H.trans (a1Q h.nod)⟩
  ·obtain⟨s1,r,y,f,z,p,A,B⟩:=h.less2 i j.d (by have:=c.l;omega) (by omega) v;rw[a0A r];exact⟨s1,G,rfl,y,⟨f.mono (by simp only[j0T];omega) (by omega),fun k b=>by rw[z,f.bits];exact hi k b,fun _ _ h=> .inl h,p,A,B,g1Q f p⟩,Sub.refl G⟩
end
end
end Go.Sb

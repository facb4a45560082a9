/- Part of the proof; no statement of its own. -/
import Derived.Test.YtpinhnikemamjaaGreatDoorN09
import Derived.Test.YtpinhnikemamjaaGreatDoorProg
import Derived.KernelRfl
import Derived.Test.YtpinhnikemamjaaGreatDoorN08
import Derived.Test.YtpinhnikemamjaaGreatDoorN02
set_option linter.all false
set_option maxRecDepth 4000
set_option maxHeartbeats 4000000
namespace Go.Sb
section
inductive Ob where
 |part (b:B)
 |ext (data:B) (ats:List Int)
 |node (l:Nat) (kids:List Int) (sum:B)
abbrev Gh:=List (Int×Ob)
def f0I:Ob→List Int
 | .part _=> []
 | .ext _ ats=>ats
 | .node _ kids _=>kids
def o0F (G:Gh) (a:Int):Nat:=(G.map fun p=>(f0I p.2).count a).sum
def f0X (G:Gh) (P:List Int) (a:Int):Nat:=P.count a+o0F G a
def d0N (G:Gh) (a:Int):B:=match a0E a G with|some (.ext d _)=>Sha.sum d|some (.node _ _ s)=>s|_=>a0K 32
def m0R (data:B) (ats:List Int):Hd:= {at_:=ats,sums:=(List.range 4).map fun k=>if a0R (part data k)then 0 else f0V (part data k),sum:=Sha.sum data}
def l0I:Ob→B
 | .part b=>b
 | .ext d ats=>h0F (m0R d ats)
 | .node l kids s=>j0B l {kids:=kids,sum:=s}
def a0Y (G:Gh):Nat→Int→Prop
 |0,a=>a=0∨ ∃d ats,a0E a G=some (.ext d ats)
 |l+1,a=>a=0∨ ∃ks s,a0E a G=some (.node l ks s)
def u0S (G:Gh) (d:B) (ats:List Int) (k:Nat):Prop:=if a0R (part d k)=true then ats.getD k 0=0 else ats.getD k 0≠0∧a0E (ats.getD k 0) G=some (.part (part d k))
def x0C (G:Gh):Ob→Prop
 | .part b=>b.length=64
 | .ext d ats=>d.length=256∧a0R d=false∧ats.length=4∧ ∀k,k<4→u0S G d ats k
 | .node l kids s=>l<3∧kids.length=8∧kids≠e0F∧(∀k∈kids,a0Y G l k)∧s=e0D l (kids.map (d0N G))
structure Inv (s:St) (G:Gh) (P:List Int):Prop where
 u:UOK s
 nod:mok G
 lo:1≤s.fr
 hi:s.fr+s.g.length≤65535
 refs: ∀a,a≠0→a0E a s.refs=if f0X G P a=0 then none else some (f0X G P a:Int)
 live: ∀a,a≠0→(f0X G P a≠0↔(a0E a G).isSome=true)
 zero:a0E 0 G=none
 held: ∀a,isB s.fr s.g a 1=true↔(a0E a G).isSome=true
 disk: ∀a o,a0E a G=some o→m0P s.d a.toNat=l0I o
 typ: ∀a o,a0E a G=some o→x0C G o
 cnt:G.length=s.g.count 1
def Idx (s:St) (G:Gh):Prop:= ∀k a,a0E k s.index=some a↔ ∃d ats,a0E a G=some (.ext d ats)∧k=key s.bits (Sha.sum d)
theorem n0V (a:Int) (o:Ob) (G:Gh) (x:Int):o0F ((a,o)::G) x=(f0I o).count x+o0F G x:=by simp[o0F]
theorem k1D {a:Int} {o:Ob} : ∀ {G:Gh},mok G→a0E a G=some o→ ∀x,o0F G x=(f0I o).count x+o0F (b0C a G) x
 | [],_,h,_=>by simp[a0E]at h
 | (i,u)::G,hm,h,x=>by
  have h':i ∉ G.map (·.1)∧mok G:=by simpa [mok] using hm
  by_cases e:i=a
  ·subst e;simp only[a0E,if_pos,Option.some.injEq]at h;subst h;simp[b0C,n0V]
  ·simp only[a0E,if_neg e]at h;simp only[b0C,if_neg e,n0V,k1D h'.2 h x];omega
theorem v0N {a:Int} {o:Ob} {x:Int} : ∀ {G:Gh},a0E a G=some o→x∈f0I o→o0F G x≠0
 | [],h,_=>by simp[a0E]at h
 | (i,u)::G,h,hx=>by
  rw[n0V];by_cases e:i=a
  ·subst e;simp only[a0E,if_pos,Option.some.injEq]at h;subst h;have:=List.count_pos_iff.2 hx;omega
  ·simp only[a0E,if_neg e]at h;have:=v0N h hx;omega
theorem s1A {K V:Type} [DecidableEq K] {k:K} {v:V} : ∀ {m:List (K×V)},a0E k m=some v→(b0C k m).length+1=m.length
 | [],h=>by simp[a0E]at h
 | (i,u)::m,h=>by
  by_cases e:i=k
  ·subst e;simp[b0C]
  ·simp only[a0E,if_neg e]at h;simp[b0C,e,s1A h]
theorem a1Y {l:B} {n:Nat} (h:a0R l=true) (hn:l.length=n):l=a0K n:=by
 subst hn;unfold a0R at h;rw[List.all_eq_true]at h;exact List.eq_replicate_iff.2 ⟨rfl,fun x hx=>by simpa using h x hx⟩
theorem j0D (n:Nat):(a0K n).length=n:=by simp[a0K]
theorem z1H (v:List Sha.W) (k w:Sha.W):(Sha.rnd v k w).length=8:=rfl
theorem s1B (w v:List Sha.W) (h:v.length=8): ∀n,(Sha.j0N w v n).length=8
 |0=>h
 |_+1=>rfl
theorem z1I {h:List Sha.W} (hh:h.length=8) (b:B):(Sha.mix h b).length=8:=by
 unfold Sha.mix;rw[List.length_zipWith,s1B _ _ hh,hh];rfl
theorem o1K: ∀(n:Nat) {h:List Sha.W} (_:h.length=8) (b:B),(Sha.f0A n h b).length=8
 |0,_,hh,_=>hh
 |n+1,_,hh,b=>o1K n (z1I hh _) _
theorem p0L (b:B):(Sha.sum b).length=32:=by
 unfold Sha.sum;rw[h0S (k:=4) fun _=>rfl,o1K _ rfl]
theorem s0W (l:Nat) (ss:List B):(e0D l ss).length=32:=by
 unfold e0D;split
 ·exact j0D 32
 ·exact p0L _
theorem h1W {d:B} {k:Nat} (hd:d.length=256) (hk:k<4):(part d k).length=64:=by unfold part;simp;omega
section
variable {s:St} {G:Gh} {P:List Int}
theorem Inv.ne0 (h:Inv s G P) {a:Int} {o:Ob} (ho:a0E a G=some o):a≠0:=by
 rintro rfl;rw[h.zero]at ho;cases ho
theorem Inv.range (h:Inv s G P) {a:Int} {o:Ob} (ho:a0E a G=some o):0<a∧a<65536∧(s.fr:Int)≤a∧a<s.d.l.length:=by
 have h1:=p0K.1 ((h.held a).2 (by rw[ho];rfl));have h2:=h.u.size;have h3:=h.hi;have h4:=h.lo;omega
theorem Inv.refsOf (h:Inv s G P) {a:Int} (ha:a≠0):d0K s a=f0X G P a:=by
 unfold Go.Sb.d0K;rw[h.refs a ha];by_cases e:f0X G P a=0
 ·simp[e]
 ·simp[e]
theorem Inv.need_pos (h:Inv s G P) {a:Int} {o:Ob} (ho:a0E a G=some o):f0X G P a≠0:=(h.live a (h.ne0 ho)).2 (by rw[ho];rfl)
theorem Inv.get (h:Inv s G P) {a:Int} {o:Ob} (ho:a0E a G=some o):h0P a s=(.ok (l0I o),s):=by
 have h1:=h.refsOf (h.ne0 ho);have h2:=h.need_pos ho;have h3:=h.range ho;unfold h0P;rw[if_neg (by omega)];unfold n0F;rw[h.u.run.2];simp only[Bool.false_eq_true,if_false];rw[if_neg (by omega)];have:=h.disk a o ho;unfold m0P at this;rw[this]
theorem Inv.kid_range (h:Inv s G P) {l:Nat} {a:Int} (ha:a0Y G l a):0≤a∧a<65536:=by
 cases l with
 |zero=>
  rcases ha with rfl| ⟨d,ats,ho⟩
  ·omega
  ·have:=h.range ho;omega
 |succ l=>
  rcases ha with rfl| ⟨d,ats,ho⟩
  ·omega
  ·have:=h.range ho;omega
theorem Inv.load (h:Inv s G P) {a:Int} {l:Nat} {kids:List Int} {sum:B} (ho:a0E a G=some (.node l kids sum)):load a l s=(.ok {kids:=kids,sum:=sum},s):=by
 obtain⟨t1,t2,t3,t4,t5⟩:=h.typ a _ ho;have hb:=z1G (x:= {kids:=kids,sum:=sum}) (l:=l) (by omega) ⟨t2,fun x hx=>h.kid_range (t4 x hx),by rw[t5];exact s0W _ _⟩;unfold Go.Sb.load;rw[if_neg (h.ne0 ho),a0A (h.get ho)];show(f0Q l (j0B l _),s)=_;rw[hb.1]
theorem x2Q (l:Nat) (s:St):load 0 l s=(.ok {kids:=e0F,sum:=a0K 32},s):=by unfold load;rw[if_pos rfl];rfl
theorem v2R (h:Inv s G P) {a:Int} {d:B} {ats:List Int} (ho:a0E a G=some (.ext d ats)):HdOK (m0R d ats):=by
 obtain⟨t1,t2,t3,t4⟩:=h.typ a _ ho;refine⟨t3,fun x hx=> ?_,by simp[m0R],fun c hc=> ?_,p0L _⟩
 ·have hx':x∈ats:=hx;obtain⟨k,hk,rfl⟩:=List.getElem_of_mem hx';have hk4:k<4:=by omega
  have e:ats.getD k 0=ats[k]:=by rw[List.getD_eq_getElem?_getD,List.getElem?_eq_getElem hk];rfl
  have:=t4 k hk4;unfold u0S at this;rw[e]at this;show 0≤ats[k]∧ats[k]<65536;split at this
  ·omega
  ·have:=h.range this.2;omega
 ·obtain⟨k,_,rfl⟩:=List.mem_map.1 hc;split
  ·decide
  ·exact Nat.lt_of_lt_of_eq (f1I _) (by decide)
theorem Inv.xhead (h:Inv s G P) {a:Int} {d:B} {ats:List Int} (ho:a0E a G=some (.ext d ats)):g0W a s=(.ok (m0R d ats),s):=by
 unfold Go.Sb.g0W;rw[a0A (h.get ho)];show(h0H (h0F _),s)=_;rw[(z1F (v2R h ho)).1]
theorem Inv.xparts (h:Inv s G P) {a:Int} {d:B} {ats:List Int} (ho:a0E a G=some (.ext d ats)): ∀n,n≤4→f0N (m0R d ats) n s=(.ok (d.drop (64*(4-n))),s)
 |0,_=>by
  have:=(h.typ a _ ho).1;unfold Go.Sb.f0N;rw[List.drop_eq_nil_of_le (by omega)];rfl
 |n+1,hn=>by
  obtain⟨t1,t2,t3,t4⟩:=h.typ a _ ho;have ih:=h.xparts ho n (by omega);have ht:=t4 (4- (n+1)) (by omega);have e0:part d (4- (n+1))++d.drop (64*(4-n))=d.drop (64*(4- (n+1))):=by
   rw[show 64*(4-n)=64*(4- (n+1))+64 by omega,←List.drop_drop];exact List.take_append_drop _ _
  have hs:(m0R d ats).sums.getD (4- (n+1)) 0=if a0R (part d (4- (n+1)))then 0 else f0V (part d (4- (n+1))):=by
   have:n=0∨n=1∨n=2∨n=3:=by omega
   rcases this with rfl|rfl|rfl|rfl<;>rfl
  unfold Go.Sb.f0N;unfold u0S at ht;have e1:(if 0<(m0R d ats).at_.getD (4- (n+1)) 0 then a0B (h0P ((m0R d ats).at_.getD (4- (n+1)) 0)) fun s=>if f0V s≠(m0R d ats).sums.getD (4- (n+1)) 0 then n0Q 11 else ret s else ret (a0K 64):M B) s=(.ok (part d (4- (n+1))),s):=by
   show(if 0<ats.getD (4- (n+1)) 0 then _ else _:M B) s=_;by_cases hz:a0R (part d (4- (n+1)))=true
   ·rw[if_pos hz]at ht;rw[ht,if_neg (by omega),a1Y hz (h1W t1 (by omega))];rfl
   ·rw[if_neg hz]at ht;have:=h.range ht.2;rw[if_pos (by omega)];show a0B (h0P (ats.getD (4- (n+1)) 0)) _ s=_;rw[a0A (h.get ht.2),hs,if_neg hz];show(if f0V (part d (4- (n+1)))≠f0V (part d (4- (n+1)))then n0Q 11 else ret (part d (4- (n+1))):M B) s=_;rw[if_neg (by simp)];rfl
  simp only;rw[a0A e1,a0A ih,←e0];rfl
theorem Inv.xget (h:Inv s G P) {a:Int} {d:B} {ats:List Int} (ho:a0E a G=some (.ext d ats)):k0R a s=(.ok d,s):=by
 unfold Go.Sb.k0R;rw[if_neg (h.ne0 ho),a0A (h.xhead ho),h.xparts ho 4 (by omega)];rfl
theorem x2R (s:St):k0R 0 s=(.ok (a0K 256),s):=by unfold k0R;rw[if_pos rfl];rfl
def d0B (G:Gh) (a:Int):B:=match a0E a G with|some (.ext d _)=>d|_=>a0K 256
theorem Inv.leaf (h:Inv s G P) {a:Int} (ha:a0Y G 0 a):Go.Sb.k0R a s=(.ok (d0B G a),s):=by
 rcases ha with rfl| ⟨d,ats,ho⟩
 ·rw[x2R];unfold d0B;rw[h.zero]
 ·rw[h.xget ho];unfold d0B;rw[ho]
theorem Inv.xsum (h:Inv s G P) {a:Int} (ha:a0Y G 0 a):r0J a s=(.ok (d0N G a),s):=by
 unfold Go.Sb.r0J;rcases ha with rfl| ⟨d,ats,ho⟩
 ·rw[if_pos rfl];unfold d0N;rw[h.zero];rfl
 ·rw[if_neg (h.ne0 ho),a0A (h.xhead ho)];unfold d0N;rw[ho];rfl
def b0E (G:Gh) (a:Int):List Int:=match a0E a G with|some (.node _ ks _)=>ks|_=>e0F
theorem Inv.loadK (h:Inv s G P) {a:Int} {l:Nat} (ha:a0Y G (l+1) a):Go.Sb.load a l s=(.ok {kids:=b0E G a,sum:=d0N G a},s):=by
 rcases ha with rfl| ⟨ks,sm,ho⟩
 ·rw[x2Q];unfold b0E d0N;rw[h.zero]
 ·rw[h.load ho];unfold b0E d0N;rw[ho]
theorem h2D (G:Gh) (l:Nat): ∀k∈e0F,a0Y G l k:=by
 intro k hk;have:k=0:=by simpa [e0F] using hk
 cases l<;>exact .inl this
theorem Inv.kids (h:Inv s G P) {a:Int} {l:Nat} (ha:a0Y G (l+1) a):(b0E G a).length=8∧ ∀k∈b0E G a,a0Y G l k:=by
 rcases ha with rfl| ⟨ks,sm,ho⟩
 ·unfold b0E;rw[h.zero];exact⟨rfl,h2D G l⟩
 ·unfold b0E;rw[ho];obtain⟨t1,t2,t3,t4,t5⟩:=h.typ a _ ho;exact⟨t2,t4⟩
theorem g0J {l:List Int} {i:Nat} (h:i<l.length):l.getD i 0∈l:=by
 rw[List.getD_eq_getElem?_getD,List.getElem?_eq_getElem h];exact List.getElem_mem h
def c0K (G:Gh):Nat→Int→Nat→Int
 |0,root,i=>(b0E G root).getD (b0O 0 i).1 0
 |l+1,root,i=>c0K G l ((b0E G root).getD (b0O (l+1) i).1 0) (b0O (l+1) i).2
theorem p0M (l i:Nat):(b0O l i).1<8:=by unfold b0O;exact Nat.mod_lt _ (by decide)
theorem Inv.leafKid (h:Inv s G P): ∀(l:Nat) {root:Int} (_:a0Y G (l+1) root) (i:Nat),a0Y G 0 (c0K G l root i)
 |0,root,hr,i=>(h.kids hr).2 _ (g0J (by rw[(h.kids hr).1];exact p0M 0 i))
 |l+1,root,hr,i=>h.leafKid l ((h.kids hr).2 _ (g0J (by rw[(h.kids hr).1];exact p0M (l+1) i))) _
theorem Inv.rget (h:Inv s G P): ∀(l:Nat) {root:Int} (_:a0Y G (l+1) root) (i:Nat),k0S l root i s=(.ok (c0K G l root i),s)
 |0,root,hr,i=>by unfold Go.Sb.k0S;rw[a0A (h.loadK hr)];rfl
 |l+1,root,hr,i=>by
  unfold Go.Sb.k0S;rw[a0A (h.loadK hr)];exact h.rget l ((h.kids hr).2 _ (g0J (by rw[(h.kids hr).1];exact p0M (l+1) i))) _
theorem Inv.rsums (h:Inv s G P) (l:Nat): ∀ks:List Int,(∀k∈ks,a0Y G l k)→g0O l ks s=(.ok (ks.map (d0N G)),s)
 | [],_=>rfl
 |k::ks,hk=>by
  have ih:=h.rsums l ks fun x hx=>hk x (List.mem_cons_of_mem _ hx);have h0:=hk k (List.mem_cons_self ..);unfold Go.Sb.g0O;cases l with
  |zero=>rw[a0A (h.xsum h0),a0A ih];rfl
  |succ l=>
   have e:(a0B (Go.Sb.load k l) fun x=>ret x.sum:M B) s=(.ok (d0N G k),s):=by rw[a0A (h.loadK h0)];rfl
   simp only;rw[a0A e,a0A ih];rfl
end
end
end Go.Sb
namespace Go.Proofs.Q
section
open Go
end
section
open Go
end
section
open Go
end
section
open Go
end
section
open Go
end
end Go.Proofs.Q
namespace Go.Sl
section
section
variable {c:Cx} {ops:Array Oper} {Q:Exit→Act→World→Prop} {K:List a0C} {steps:k0O} {env:List (Nat×Value)} {L:List a0C}
theorem i0R (hK: ∀w,Sat w L→Sat w K) (h:OM c ops Q K steps env L):KW c (Exit.then (KM c ops Q K steps) Q) .normal env L:=by
 intro a w hh;have hs:Sat w K:=hK w hh.sat;exact⟨⟨hs,hh.like⟩,fun l hB hn hQ=>h l a w hB hn hQ hh hs⟩
theorem f1J {id:Nat} {l:List Oper} (steps:k0O) (K:List a0C) (hm:c.P.follows .mixedOrders=true)
 (hB:(Region.noSelect l.toArray&&(Nat.beq steps.len l.length&&l0A l.toArray steps (Array.replicate l.length false)))=true) (hQ:b0S Q) (hK: ∀w,Sat w L→Sat w K) (h:OM c l.toArray Q K steps env L):CW c (.region id l.toArray true) Q env L:=by
 intro a w hh;simp only[Bool.and_eq_true]at hB;have hh':=hh.drew;have hs:Sat w.drew K:=hK _ hh'.sat;have h1:=h _ a w.drew hB.2.2 hB.1 hQ hh' hs;refine wp_region_held (S:=p0Z c K) hm ?_;have e:steps.len=l.toArray.size:=by simpa using Nat.eq_of_beq_eq_true hB.2.1
 rw[←e];have e2:Array.replicate steps.len false=Array.replicate l.length false:=by rw[Nat.eq_of_beq_eq_true hB.2.1]
 rw[e2];exact h1
end
end
end Go.Sl
namespace Go.Sb
inductive Car (α:Type) where
 |start
 |done (a:α)
 |lost
def f0F {α:Type} (m:M α):Run (St×Car α) Unit:=fun x=>match m x.1 with
 | (.ok a,t)=>(.ok (),(t,.done a))
 | (.err e,t)=>(.err e,(t,.lost))
 | (.big,t)=>(.big,(t,.lost))
def s1C {α:Type} (m:M α):Run (St×Car α) Int:=n0T (f0F m)
def h0V {α:Type} (m:M α):M (Int×Car α):=fun s=>match s1C m (s,.start)with
 | (.ok e,(t,c))=>(.ok (e,c),t)
 | (.err e,(t,_))=>(.err e,t)
 | (.big,(t,_))=>(.big,t)
def e0O {α:Type} (more:Nat) (m:M α):M α:=a0B (k0H more) fun _=>m
def a1Z {α:Type} (d:α):Car α→α
 | .done a=>a
 |_=>d
def g0S (x:Ent) (at_ n:Int):M Unit:=if 5000<x.size then fun s=>(.big,s)else l0E x at_ n
def l0U (made:M Ent):M (Int×Int):=fun s=>
 if 16≤s.vols.length then(.ok (0,13),s)else
 a0B (h0V (e0O 1 (a0B made v0E))) (fun r=>ret (if r.1=0 then(a1Z 0 r.2,0)else(0,r.1))) s
def g0K (size:Int):M (Int×Int):=if size<1∨2048<size then ret (0,4)else l0U (ret {h0T with size:=size})
def y0G (id:Int) (only:Bool):M Ent:=a0B (find id) fun x=>a0B (g0N x.root 3) fun _=>ret {h0T with parent:=id,only:=only,size:=x.size,root:=x.root}
def i0G (id:Int) (only:Bool):M (Int×Int):=fun s=>match a0E id s.vols with
 |none=>(.ok (0,5),s)
 |some _=>l0U (y0G id only) s
def i0H (id at_:Int) (data:B):M Unit:=a0B (l0H id) fun x=>if data.length%64≠0 then n0Q 4 else
 a0B (g0S x at_ (data.length/64:Nat)) fun _=>a0B (e0N x at_.toNat data) l0Q
def h0I (id at_:Int) (data:B):M Int:=a0B (h0V (e0O 0 (i0H id at_ data))) fun r=>ret r.1
def o0B (id at_ n:Int):M B:=a0B (find id) fun x=>a0B (g0S x at_ n) fun _=>j0S n.toNat x at_.toNat n.toNat
def o0G (id at_ n:Int):M (B×Int):=a0B (h0V (o0B id at_ n)) fun r=>ret (if r.1=0 then(a1Z [] r.2,0)else([],r.1))
end Go.Sb
namespace Go.Sb.Sha
def z1J {α:Type} (n:Nat) (k:Nat→α):α:=match n with
 |0=>k 0
 |m+1=>k (m+1)
theorem c2K {α:Type} (n:Nat) (k:Nat→α):z1J n k=k n:=by cases n<;>rfl
def st {α:Type} (x:W) (k:W→α):α:=z1J x.toNat fun n=>k (BitVec.ofNat 32 n)
theorem q1Q {α:Type} (x:W) (k:W→α):st x k=k x:=by unfold st;rw[c2K];simp
def go:List W→W→W→W→W→W→W→W→W→List W
 | [],a,b,c,d,e,f,g,h=> [a,b,c,d,e,f,g,h]
 |x::l,a,b,c,d,e,f,g,h=>
  st (h+x+t1 e+(e &&& f ^^^ ~~~e &&& g)) fun t=>st (d+t) fun e'=>st (t+(t0 a+(a &&& b ^^^ a &&& c ^^^ b &&& c))) fun a'=>go l a' a b c e' e f g
def wk (b:List UInt8):List W:=List.zipWith (· + ·) e0G (k0G b)
def h1X (v:List W) (x:W):List W:=
 let e:=at_ v 4;let a:=at_ v 0
 let t:=at_ v 7+x+t1 e+(e &&& at_ v 5 ^^^ ~~~e &&& at_ v 6)
 let u:=t0 a+(a &&& at_ v 1 ^^^ a &&& at_ v 2 ^^^ at_ v 1 &&& at_ v 2)
 [t+u,a,at_ v 1,at_ v 2,at_ v 3+t,e,at_ v 5,at_ v 6]
theorem r2X (v:List W) (k w:W):rnd v k w=h1X v (k+w):=by unfold rnd h1X;simp only[BitVec.add_assoc]
theorem q2H: ∀(l:List W) (a b c d e f g h:W),go l a b c d e f g h=l.foldl h1X [a,b,c,d,e,f,g,h]
 | [],a,b,c,d,e,f,g,h=>rfl
 |x::l,a,b,c,d,e,f,g,h=>by
  unfold go;rw[q1Q,q1Q,q1Q,q2H,List.foldl_cons];rfl
theorem z1K (w v:List W): ∀n,n≤64→64≤w.length→j0N w v n=((List.zipWith (· + ·) e0G w).take n).foldl h1X v
 |0,_,_=>rfl
 |n+1,h,hw=>by
  have h64:e0G.length=64:=rfl;have hl:n<(List.zipWith (· + ·) e0G w).length:=by rw[List.length_zipWith];omega
  rw[List.take_succ,List.getElem?_eq_getElem hl,List.foldl_append,←z1K w v n (by omega) hw];show rnd (j0N w v n) (at_ e0G n) (at_ w n)=h1X _ _;rw[r2X];congr 1;unfold at_;rw[List.getElem_zipWith,List.getD_eq_getElem?_getD,List.getD_eq_getElem?_getD,List.getElem?_eq_getElem (by omega),List.getElem?_eq_getElem (by omega)];rfl
theorem r0S: ∀(n:Nat) (w:List W),(more n w).length=w.length+n
 |0,w=>rfl
 |n+1,w=>by unfold more;rw[r0S n];simp;omega
theorem o1L (b:List UInt8):(k0G b).length=64:=by unfold k0G f0H;rw[r0S];simp
def k0D (h l:List W):List W:=List.zipWith (· + ·) h (l.foldl h1X h)
theorem h2E (h:List W) (b:List UInt8):mix h b=k0D h (wk b):=by
 have h64:e0G.length=64:=rfl;unfold mix k0D wk;rw[z1K _ _ 64 (Nat.le_refl _) (by rw[o1L];exact Nat.le_refl _),List.take_of_length_le (by rw[List.length_zipWith];omega)]
def b1A {α:Type} (h l:List W) (k:List W→List α):List α:=match h with
 | [a,b,c,d,e,f,g,i]=>match go l a b c d e f g i with
  | [a',b',c',d',e',f',g',i']=>st (a+a') fun a=>st (b+b') fun b=>st (c+c') fun c=>st (d+d') fun d=>st (e+e') fun e=>st (f+f') fun f=>st (g+g') fun g=>st (i+i') fun i=>k [a,b,c,d,e,f,g,i]
  |_=> []
 |_=> []
theorem o1M (l:List W): ∀(v:List W),v.length=8→(l.foldl h1X v).length=8:=by
 induction l with
 |nil=>intro v h;exact h
 |cons x l ih=>intro v h;exact ih _ rfl
theorem q1R {α:Type} : ∀(l:List α),l.length=8→ ∃a b c d e f g h,l= [a,b,c,d,e,f,g,h]
 | [a,b,c,d,e,f,g,h],_=>⟨a,b,c,d,e,f,g,h,rfl⟩
theorem g0L {h l:List W} (hh:h.length=8):(k0D h l).length=8:=by unfold k0D;rw[List.length_zipWith,o1M l h hh,hh];rfl
theorem o0H {α:Type} {h l:List W} (hh:h.length=8) (k:List W→List α):b1A h l k=k (k0D h l):=by
 have h2:=o1M l h hh;obtain⟨a,b,c,d,e,f,g,i,rfl⟩:=q1R h hh;unfold k0D;unfold b1A;simp only;rw[q2H];obtain⟨a',b',c',d',e',f',g',i',h3⟩:=q1R _ h2;rw[h3];simp only[q1Q,List.zipWith_cons_cons,List.zipWith_nil_left]
end Go.Sb.Sha
namespace Go.Sb
abbrev Lf:=Int×B
def f0M (at_:Int):List Lf→B
 | []=>a0K 256
 | (a,d)::r=>if a=at_ then d else f0M at_ r
def o0V (at_:Int) (d:B):Bool→List Lf→List Lf
 |done,[]=>if done then []else [(at_,d)]
 |done,(a,x)::r=>(if done=false∧at_<a then [(at_,d)]else [])++(if a=at_ then []else [(a,x)])++o0V at_ d (done || decide (at_<a)) r
def j0X (m:List Lf) (at_:Int) (d:B):List Lf:=o0V at_ d (a0R d) m
def g0P (m:List Lf) (f t:Int):List Lf:=m.filter fun x=>decide (x.1<f∨t≤x.1)
structure Vp where
 id:Int
 parent:Int
 only:Bool
 size:Int
 born:Int
 m:List Lf
structure Rp where
 l:List Vp
 next:Int
 bits:Nat
 epoch:Int
def c0O (l:List Vp) (id:Int):Option Nat:=l.findIdx? fun v=>v.id == id
def d1H (l:List Vp) (id:Int):Int:=match c0O l id with|some i=>i|none=> -1
def v0:Vp:= {id:=0,parent:=0,only:=false,size:=0,born:=0,m:= []}
def g0Q (c:Rp) (v:Vp):Rp×Int×Int:=if 15<c.l.length then(c,0,13)else
 ({c with l:=c.l++ [{v with id:=c.next,born:=c.epoch}],next:=c.next+1},c.next,0)
def e0S (c:Rp) (size:Int):Rp×Int×Int:=if size<1∨2048<size then(c,0,4)else g0Q c {v0 with size:=size}
def i0N (c:Rp) (id:Int) (only:Bool):Rp×Int×Int:=match c0O c.l id with
 |none=>(c,0,5)
 |some i=>g0Q c {v0 with parent:=id,only:=only,size:=(c.l.getD i v0).size,m:=(c.l.getD i v0).m}
def g0T (c:Rp) (id:Int):Rp×Int:=match c0O c.l id with
 |none=>(c,5)
 |some i=>({c with l:=c.l.eraseIdx i},0)
def m0B (v:Vp) (at_ n:Int):Bool:=decide (at_<0∨n<0∨v.size<at_∨v.size-at_<n)
def k0L (m:List Lf) (at_:Nat):Nat→B
 |0=> []
 |n+1=>k0L m at_ n++((f0M ((at_+n)/4:Nat) m).drop ((at_+n)%4*64)).take 64
def m0C (c:Rp) (id at_ n:Int):B×Int:=match c0O c.l id with
 |none=>([],5)
 |some i=>if m0B (c.l.getD i v0) at_ n then([],6)else(k0L (c.l.getD i v0).m at_.toNat n.toNat,0)
def p0C (c:Rp) (data:B):Bool:=c.l.any fun v=>v.m.any fun x=>decide (x.2≠data∧key c.bits (Sha.sum x.2)=key c.bits (Sha.sum data))
def d0E (c:Rp) (i:Nat) (m:List Lf):Rp:= {c with l:=c.l.set i {c.l.getD i v0 with m:=m}}
def b1B (was data:B) (f n:Nat):B:=was.take f++data.take n++was.drop (f+n)
def d0D (i:Nat):Nat→Rp→Nat→B→Rp×Int
 |0,c,_,_=>(c,0)
 |k+1,c,at_,data=>if data= []then(c,0)else
  let was:=f0M (at_/4:Nat) (c.l.getD i v0).m;let f:=at_%4*64;let n:=min data.length (256-f)
  let now:=b1B was data f n
  if now≠was∧a0R now=false∧p0C c now=true then(c,9)else
  d0D i k (d0E c i (j0X (c.l.getD i v0).m (at_/4:Nat) now)) (at_+n/64) (data.drop n)
def j0E (c:Rp) (id at_:Int) (data:B):Rp×Int:=match c0O c.l id with
 |none=>(c,5)
 |some i=>if(c.l.getD i v0).only then(c,7)else if data.length%64≠0 then(c,4)else if m0B (c.l.getD i v0) at_ (data.length/64:Nat)then(c,6)else
  let r:=d0D i data.length c at_.toNat data
  if r.2≠0 then(c,r.2)else(r.1,0)
def d0T (c:Rp) (i from_ upto:Nat):Rp×Int:=
 let a:=(from_+3)/4;let b:=upto/4
 if b≤a then d0D i ((upto-from_)*64) c from_ (a0K ((upto-from_)*64))else
 let r:=d0D i ((4*a-from_)*64) c from_ (a0K ((4*a-from_)*64))
 if r.2≠0 then(c,r.2)else
 let x:=d0E r.1 i (g0P (r.1.l.getD i v0).m a b)
 let y:=d0D i ((upto-4*b)*64) x (4*b) (a0K ((upto-4*b)*64))
 if y.2≠0 then(c,y.2)else(y.1,0)
def l0J (c:Rp) (id at_ n:Int):Rp×Int:=match c0O c.l id with
 |none=>(c,5)
 |some i=>if(c.l.getD i v0).only then(c,7)else if m0B (c.l.getD i v0) at_ n then(c,6)else d0T c i at_.toNat (at_+n).toNat
def g0U (c:Rp) (id size:Int):Rp×Int:=match c0O c.l id with
 |none=>(c,5)
 |some i=>if(c.l.getD i v0).only then(c,7)else if size<1∨2048<size then(c,4)else
  let r:=if size<(c.l.getD i v0).size then d0T c i size.toNat (c.l.getD i v0).size.toNat else(c,0)
  if r.2≠0 then(c,r.2)else({r.1 with l:=r.1.l.set i {r.1.l.getD i v0 with size:=size}},0)
structure m0D (m:List Lf):Prop where
 ord:m.Pairwise fun a b=>a.1<b.1
 in_: ∀x∈m,0≤x.1∧x.1<512∧x.2.length=256
theorem h1Y (j:Int):f0M j []=a0K 256:=rfl
theorem j0F (j a:Int) (d:B) (r:List Lf):f0M j ((a,d)::r)=if a=j then d else f0M j r:=rfl
theorem z1L: ∀ {m:List Lf} {lo:Int},(m.Pairwise fun a b=>a.1<b.1)→(∀x∈m,lo≤x.1∧x.1<512)→lo≤512→(m.length:Int)≤512-lo
 | [],lo,_,_,h=>by simp;omega
 |x::m,lo,hp,hi,h=>by
  obtain⟨h1,h2⟩:=List.pairwise_cons.1 hp;have h3:=hi x List.mem_cons_self;have:=z1L (m:=m) (lo:=x.1+1) h2 (fun y hy=>⟨by have:=h1 y hy;omega,(hi y (List.mem_cons_of_mem _ hy)).2⟩) (by omega);simp only[List.length_cons];omega
theorem m0D.len {m:List Lf} (h:m0D m):m.length≤512:=by
 have:=z1L (lo:=0) h.ord (fun x hx=>⟨(h.in_ x hx).1,(h.in_ x hx).2.1⟩) (by omega);omega
theorem o1N:m0D []:=⟨List.Pairwise.nil,fun x h=>by cases h⟩
theorem m0D.get_len {m:List Lf} (h:m0D m) (at_:Int):(f0M at_ m).length=256:=by
 have: ∀l:List Lf,(∀x∈l,x.2.length=256)→(f0M at_ l).length=256:=fun l=>by
  induction l with
  |nil=>intro _;exact List.length_replicate ..
  |cons x l ih=>
   intro hl;obtain⟨a,d⟩:=x;unfold f0M;split
   ·exact hl (a,d) List.mem_cons_self
   ·exact ih fun y hy=>hl y (List.mem_cons_of_mem _ hy)
 exact this m fun x hx=>(h.in_ x hx).2.2
theorem k1E (at_:Int) (d:B) (done:Bool) (x:Lf) (r:List Lf):o0V at_ d done (x::r)=(if done=false∧at_<x.1 then [(at_,d)]else [])++(if x.1=at_ then []else [x])++o0V at_ d (done || decide (at_<x.1)) r:=by cases x;rfl
theorem b1C (at_:Int) (d:B): ∀(m:List Lf) (done:Bool) (x:Lf),x∈o0V at_ d done m→(x∈m∧x.1≠at_)∨(done=false∧x=(at_,d))
 | [],done,x,h=>by
  unfold o0V at h;split at h
  ·cases h
  ·rename_i hd;exact .inr ⟨by simpa using hd,List.mem_singleton.1 h⟩
 |y::r,done,x,h=>by
  rw[k1E]at h;rcases List.mem_append.1 h with h|h
  ·rcases List.mem_append.1 h with h|h
   ·split at h
    ·rename_i hd;exact .inr ⟨hd.1,List.mem_singleton.1 h⟩
    ·cases h
   ·split at h
    ·cases h
    ·rename_i hne;rw[List.mem_singleton.1 h];exact .inl ⟨List.mem_cons_self,hne⟩
  ·rcases b1C at_ d r _ x h with ⟨h1,h2⟩| ⟨h1,h2⟩
   ·exact .inl ⟨List.mem_cons_of_mem _ h1,h2⟩
   ·exact .inr ⟨by cases done<;>simp_all,h2⟩
theorem s1D (at_:Int) (d:B): ∀(m:List Lf) (done:Bool),(m.Pairwise fun a b=>a.1<b.1)→(o0V at_ d done m).Pairwise fun a b=>a.1<b.1
 | [],done,_=>by unfold o0V;split<;>simp
 |x::r,done,hp=>by
  obtain⟨h1,h2⟩:=List.pairwise_cons.1 hp;have ih:=s1D at_ d r (done || decide (at_<x.1)) h2;have hm:=b1C at_ d r (done || decide (at_<x.1));rw[k1E];by_cases hlt:at_<x.1
  ·have hgt: ∀y∈o0V at_ d (done || decide (at_<x.1)) r,x.1<y.1:=fun y hy=>by
    rcases hm y hy with ⟨h3,_⟩| ⟨h3,_⟩
    ·exact h1 y h3
    ·rw[decide_eq_true hlt,Bool.or_true]at h3;cases h3
   rw[if_neg (show ¬x.1=at_ by omega)];split
   ·simp only[List.singleton_append,List.cons_append,List.nil_append];refine List.pairwise_cons.2 ⟨fun y hy=> ?_,List.pairwise_cons.2 ⟨hgt,ih⟩⟩;rcases List.mem_cons.1 hy with rfl|hy
    ·exact hlt
    ·exact Int.lt_trans hlt (hgt y hy)
   ·exact List.pairwise_cons.2 ⟨hgt,ih⟩
  ·rw[if_neg (fun h=>hlt h.2)];by_cases he:x.1=at_
   ·rw[if_pos he];exact ih
   ·rw[if_neg he];refine List.pairwise_cons.2 ⟨fun y hy=> ?_,ih⟩;rcases hm y hy with ⟨h3,_⟩| ⟨_,rfl⟩
    ·exact h1 y h3
    ·show x.1<at_;omega
theorem m0D.put {m:List Lf} (h:m0D m) {at_:Int} {d:B} (h1:0≤at_∧at_<512) (hd:d.length=256):m0D (j0X m at_ d):=
 ⟨s1D at_ d m _ h.ord,fun x hx=>by
  rcases b1C at_ d m _ x hx with ⟨h2,_⟩| ⟨_,rfl⟩
  ·exact h.in_ x h2
  ·exact⟨h1.1,h1.2,hd⟩⟩
theorem m0D.clear {m:List Lf} (h:m0D m) (f u:Int):m0D (g0P m f u):=⟨h.ord.filter _,fun x hx=>h.in_ x (List.mem_filter.1 hx).1⟩
theorem o1O (at_:Int) (d:B): ∀(m:List Lf) (done:Bool) (j:Int),f0M j (o0V at_ d done m)=if j=at_ then(if done then a0K 256 else d)else f0M j m
 | [],done,j=>by
  unfold o0V;cases done with
  |true=>rw[if_pos rfl,h1Y];split<;>rfl
  |false=>
   rw[if_neg (by simp),j0F,h1Y];by_cases e:j=at_
   ·rw[if_pos e.symm,if_pos e];rfl
   ·rw[if_neg (Ne.symm e),if_neg e]
 |x::r,done,j=>by
  obtain⟨a,y⟩:=x;rw[k1E];have ih:=o1O at_ d r (done || decide (at_<a)) j;by_cases hit:done=false∧at_<a
  ·rw[if_pos hit,if_neg (show ¬a=at_ by omega)];obtain⟨hd,hlt⟩:=hit;subst hd;simp only[List.singleton_append,List.cons_append,List.nil_append];by_cases e:j=at_
   ·rw[j0F,if_pos e.symm,if_pos e];rfl
   ·rw[if_neg e]at ih;rw[j0F,if_neg (Ne.symm e),if_neg e,j0F,j0F,ih]
  ·rw[if_neg hit];have hdd:(done || decide (at_<a))=done:=by
    cases done with
    |true=>rfl
    |false=>simp only[true_and]at hit;simp[hit]
   rw[hdd]at ih ⊢;by_cases he:a=at_
   ·rw[if_pos he];simp only[List.nil_append];rw[ih,j0F];by_cases hj:j=at_
    ·rw[if_pos hj,if_pos hj]
    ·rw[if_neg hj,if_neg hj,if_neg (by omega)]
   ·rw[if_neg he];simp only[List.nil_append,List.singleton_append];rw[j0F,j0F,ih];by_cases hj:a=j
    ·rw[if_pos hj,if_pos hj,if_neg (by omega)]
    ·rw[if_neg hj,if_neg hj]
theorem g1J (f u:Int): ∀(m:List Lf) (j:Int),f0M j (g0P m f u)=if f≤j∧j<u then a0K 256 else f0M j m
 | [],j=>by show f0M j []=_;rw[h1Y];split<;>rfl
 |x::r,j=>by
  obtain⟨a,y⟩:=x;have ih:=g1J f u r j;by_cases hk:a<f∨u≤a
  ·rw[show g0P ((a,y)::r) f u=(a,y)::g0P r f u from List.filter_cons_of_pos (by simpa using hk),j0F,j0F,ih];by_cases hj:a=j
   ·rw[if_pos hj,if_pos hj,if_neg (by omega)]
   ·rw[if_neg hj,if_neg hj]
  ·rw[show g0P ((a,y)::r) f u=g0P r f u from List.filter_cons_of_neg (by simpa using hk),ih,j0F];by_cases hin:f≤j∧j<u
   ·rw[if_pos hin,if_pos hin]
   ·rw[if_neg hin,if_neg hin,if_neg (by omega)]
section
theorem d0H {K V:Type} [DecidableEq K] (k j:K) (v:V) (m:List (K×V)):a0E j ((k,v)::m)=if k=j then some v else a0E j m:=rfl
theorem o1P (a:Int): ∀ {G:Gh},(∀p∈G,(f0I p.2).length≤8)→o0F G a≤8*G.length
 | [],_=>by simp[o0F]
 | (i,o)::G,h=>by
  have h1:=o1P a (G:=G) fun p hp=>h p (List.mem_cons_of_mem _ hp);have h2:=h (i,o) (List.mem_cons_self ..);have h3:(f0I o).count a≤(f0I o).length:=List.count_le_length;rw[n0V,List.length_cons];simp only at h2;omega
theorem r2Y {G:Gh} {o:Ob} (h:x0C G o):(f0I o).length≤8:=by
 cases o with
 |part b=>simp[f0I]
 |ext d ats=>have:=h.2.2.1;simp[f0I];omega
 |node l ks s=>have:=h.2.1;simp[f0I];omega
theorem o1Q {x:Int} (h0: -9223372036854775808≤x) (h:x<9223372036854775808):m0L x=x:=by unfold m0L;omega
theorem n0K (G:Gh) (P:List Int) (a x:Int):f0X G (a::P) x=f0X G P x+if a=x then 1 else 0:=by
 unfold f0X;rw[List.count_cons];by_cases e:a=x<;>simp[e]<;>omega
theorem s1E (G:Gh) (K P:List Int) (x:Int):f0X G (K++P) x=K.count x+f0X G P x:=by unfold f0X;rw[List.count_append];omega
section
variable {s:St} {G:Gh} {P:List Int}
theorem Inv.few (h:Inv s G P) (hP:P.length≤1000000) (a:Int):f0X G P a≤2000000:=by
 have h1:=o1P a (G:=G) fun p hp=>r2Y (h.typ p.1 p.2 ((e0Q h.nod).2 hp));have h2:P.count a≤P.length:=List.count_le_length;have h3:=h.cnt;have h4:s.g.count 1≤s.g.length:=List.count_le_length;have h5:=h.hi;unfold f0X;omega
theorem z1M {a k:Int} (hG:mok G) (hk:k≠a) {l:Nat} (h:a0Y G l k):a0Y (b0C a G) l k:=by
 cases l with
 |zero=>exact h.imp id fun⟨d,ats,e⟩=>⟨d,ats,by rw[c0M a k hG,if_neg (Ne.symm hk)];exact e⟩
 |succ l=>exact h.imp id fun⟨d,ats,e⟩=>⟨d,ats,by rw[c0M a k hG,if_neg (Ne.symm hk)];exact e⟩
theorem r2Z {a k:Int} (hG:mok G) (hk:k≠a):d0N (b0C a G) k=d0N G k:=by unfold d0N;rw[c0M a k hG,if_neg (Ne.symm hk)]
theorem v2S {a:Int} (hG:mok G) {o:Ob} (hk:a ∉ f0I o) (h:x0C G o):x0C (b0C a G) o:=by
 cases o with
 |part b=>exact h
 |ext d ats=>
  obtain⟨t1,t2,t3,t4⟩:=h;refine⟨t1,t2,t3,fun k hk4=> ?_⟩;have:=t4 k hk4;unfold u0S at this ⊢;split at this
  ·rename_i hz;rw[if_pos hz];exact this
  ·rename_i hz;rw[if_neg hz];refine⟨this.1,?_⟩;have hne:ats.getD k 0≠a:=fun e=>hk (by show a∈ats;rw[←e];exact g0J (by omega));rw[c0M a _ hG,if_neg (Ne.symm hne)];exact this.2
 |node l ks sm=>
  obtain⟨t1,t2,t3,t4,t5⟩:=h;refine⟨t1,t2,t3,fun k hm=>z1M hG (fun e=>hk (by subst e;exact hm)) (t4 k hm),?_⟩;rw[t5];congr 1;exact List.map_congr_left fun k hm=>(r2Z hG (fun e=>hk (by subst e;exact hm))).symm
theorem s2A {a k:Int} {o:Ob} (hn:a0E a G=none) {l:Nat} (h:a0Y G l k):a0Y ((a,o)::G) l k:=by
 have key: ∀u,a0E k G=some u→a0E k ((a,o)::G)=some u:=fun u e=>by
  rw[d0H,if_neg (fun e2=>by rw[e2]at hn;rw[hn]at e;cases e)];exact e
 cases l with
 |zero=>exact h.imp id fun⟨d,ats,e⟩=>⟨d,ats,key _ e⟩
 |succ l=>exact h.imp id fun⟨d,ats,e⟩=>⟨d,ats,key _ e⟩
theorem j0Y {k:Int} {l:Nat} (h:a0Y G l k):k=0∨(a0E k G).isSome=true:=by
 cases l with
 |zero=>exact h.imp id fun⟨d,ats,e⟩=>by rw[e];rfl
 |succ l=>exact h.imp id fun⟨d,ats,e⟩=>by rw[e];rfl
theorem s2B {a k:Int} {o:Ob} (h:k≠a):d0N ((a,o)::G) k=d0N G k:=by unfold d0N;rw[d0H,if_neg (Ne.symm h)]
theorem h2F {a:Int} {u:Ob} (hn:a0E a G=none) (ha:a≠0) {o:Ob} (h:x0C G o):x0C ((a,u)::G) o:=by
 have key: ∀k v,a0E k G=some v→a0E k ((a,u)::G)=some v:=fun k v e=>by
  rw[d0H,if_neg (fun e2=>by rw[←e2,hn]at e;cases e)];exact e
 cases o with
 |part b=>exact h
 |ext d ats=>
  obtain⟨t1,t2,t3,t4⟩:=h;refine⟨t1,t2,t3,fun k hk4=> ?_⟩;have:=t4 k hk4;unfold u0S at this ⊢;split at this
  ·rename_i hz;rw[if_pos hz];exact this
  ·rename_i hz;rw[if_neg hz];exact⟨this.1,key _ _ this.2⟩
 |node l ks sm=>
  obtain⟨t1,t2,t3,t4,t5⟩:=h;refine⟨t1,t2,t3,fun k hm=>s2A hn (t4 k hm),?_⟩;rw[t5];congr 1;refine List.map_congr_left fun k hm=>(s2B fun e=> ?_).symm;rcases j0Y (t4 k hm)with h0|h1
  ·exact ha (e▸h0)
  ·rw[e,hn]at h1;cases h1
theorem Inv.more (h:Inv s G P) {a:Int} {o:Ob} (ho:a0E a G=some o) (hd:0<s.depth) (hl:s.log.length<1000000000) (hP:P.length≤1000000):
 ∃s',k0E a s=(.ok (),s')∧Inv s' G (a::P)∧Rel 1 0 s s'∧s'.index=s.index∧s'.keep=s.keep∧s'.vols=s.vols∧s'.next=s.next:=by
 have h0:=h.need_pos ho;have h1:=h.refsOf (h.ne0 ho);have h2:=h.few hP a;have e:k0E a s=(.ok (),{s with log:=bk s.depth s.log (.refs a (a0E a s.refs)),refs:=b0T a ((f0X G P a+1:Nat):Int) s.refs}):=by
  unfold k0E;rw[if_neg (by omega),h1,o1Q (by omega) (by omega)];simp[g0R,a0B,back,show ¬1000000000≤s.log.length by omega]
 have r:=a1W a s hd h.u (by rw[e];simp);rw[e]at r;refine⟨_,e,⟨r.ok,h.nod,h.lo,h.hi,fun x hx=> ?_,fun x hx=> ?_,h.zero,h.held,h.disk,h.typ,h.cnt⟩,r,rfl,rfl,rfl,rfl⟩
 ·show a0E x (b0T a _ s.refs)=_;rw[j0C,n0K];by_cases e:a=x
  ·subst e;simp
  ·rw[if_neg e,if_neg e];exact h.refs x hx
 ·rw[n0K];by_cases e:a=x
  ·subst e;simp[ho]
  ·rw[if_neg e];exact h.live x hx
theorem Inv.less2 {a:Int} (h:Inv s G (a::P)) {o:Ob} (ho:a0E a G=some o) (hd:0<s.depth) (hl:s.log.length<1000000000) (hP:P.length<1000000) (hn:f0X G P a≠0):
 ∃s',e0B a s=(.ok false,s')∧Inv s' G P∧Rel 4 0 s s'∧s'.index=s.index∧s'.keep=s.keep∧s'.vols=s.vols∧s'.next=s.next:=by
 have h1:=h.refsOf (h.ne0 ho);have h2:=h.few (by simp;omega) a;have h3:=h.range ho;have h4:=n0K G P a a;simp at h4;have e:e0B a s=(.ok false,{s with log:=bk s.depth s.log (.refs a (a0E a s.refs)),refs:=b0T a (f0X G P a:Int) s.refs}):=by
  unfold e0B;rw[if_neg (by simp[inR];omega),if_neg (by omega),if_neg (by omega),h1,h4,show((f0X G P a+1:Nat):Int)-1=f0X G P a by omega,o1Q (by omega) (by omega)];simp[g0R,a0B,back,show ¬1000000000≤s.log.length by omega,ret]
 have r:=x0B a s hd h.u (by rw[e];simp);rw[e]at r;refine⟨_,e,⟨r.ok,h.nod,h.lo,h.hi,fun x hx=> ?_,fun x hx=> ?_,h.zero,h.held,h.disk,h.typ,h.cnt⟩,r,rfl,rfl,rfl,rfl⟩
 ·show a0E x (b0T a _ s.refs)=_;rw[j0C];by_cases e:a=x
  ·subst e;simp[hn]
  ·rw[if_neg e];have:=h.refs x hx;rw[n0K,if_neg e]at this;exact this
 ·by_cases e:a=x
  ·subst e;simp[ho,hn]
  ·have:=h.live x hx;rw[n0K,if_neg e]at this;exact this
theorem Inv.less1 {a:Int} (h:Inv s G (a::P)) {o:Ob} (ho:a0E a G=some o) (hd:0<s.depth) (hl:s.log.length+4<1000000000) (hg:s.gone.length+1<1000000000) (hn:f0X G P a=0):
 ∃s',e0B a s=(.ok true,s')∧Inv s' (b0C a G) (f0I o++P)∧Rel 4 0 s s'∧s'.index=s.index∧s'.keep=s.keep∧s'.vols=s.vols∧s'.next=s.next:=by
 have h1:=h.refsOf (h.ne0 ho);have h3:=h.range ho;have h4:=n0K G P a a;simp only[if_true,hn]at h4;have hB:=(h.held a).2 (by rw[ho];rfl);have bl: ∀(log:List c0P) st,(bk s.depth log st).length=log.length+1:=fun log st=>by simp[bk,hd]
 have e: ∃yg gn lg,e0B a s=(.ok true,{s with refs:=b0C a s.refs,g:=mvL s.fr s.g a 1 2,young:=yg,gone:=gn,log:=lg}):=by
  unfold e0B;rw[if_neg (by simp[inR];omega),if_neg (by omega),if_pos (by omega)];have e1:k0P a s=(.ok (),{s with log:=bk s.depth s.log (.refs a (a0E a s.refs)),refs:=b0C a s.refs}):=by
   simp[k0P,a0B,back,show ¬1000000000≤s.log.length by omega]
  rw[a0A e1];have e2:=t0Q (s:= {s with log:=bk s.depth s.log (.refs a (a0E a s.refs)),refs:=b0C a s.refs,g:=mvL s.fr s.g a 1 2}) (.back a) (by simp only[bl];omega);rw[a0A (m:=fun s=>back (.back a) {s with g:=mvL s.fr s.g a 1 2}) e2];by_cases hy:0<h0E s a
  ·have hy':0<h0E {s with log:=bk s.depth (bk s.depth s.log (.refs a (a0E a s.refs))) (.back a),refs:=b0C a s.refs,g:=mvL s.fr s.g a 1 2} a:=hy;refine⟨b0C a s.young,s.gone++ [a],bk s.depth (bk s.depth (bk s.depth (bk s.depth s.log (.refs a (a0E a s.refs))) (.back a)) (.young a (a0E a s.young))) (.gone s.gone),?_⟩;have e3:(fun s=>if 0<h0E s a then a0B (f0D a) (fun _ s=>h0D (s.gone++ [a]) s) s else ret () s) {s with log:=bk s.depth (bk s.depth s.log (.refs a (a0E a s.refs))) (.back a),refs:=b0C a s.refs,g:=mvL s.fr s.g a 1 2} =
    (.ok (),{s with refs:=b0C a s.refs,g:=mvL s.fr s.g a 1 2,young:=b0C a s.young,gone:=s.gone++ [a],log:=bk s.depth (bk s.depth (bk s.depth (bk s.depth s.log (.refs a (a0E a s.refs))) (.back a)) (.young a (a0E a s.young))) (.gone s.gone)}):=by
    simp only[if_pos hy'];simp[f0D,h0D,a0B,back,bl,show ¬1000000000≤s.log.length+1+1 by omega,show ¬1000000000≤s.log.length+1+1+1 by omega,show ¬1000000000≤s.gone.length+1 by omega]
   rw[a0A e3];rfl
  ·have hy': ¬0<h0E {s with log:=bk s.depth (bk s.depth s.log (.refs a (a0E a s.refs))) (.back a),refs:=b0C a s.refs,g:=mvL s.fr s.g a 1 2} a:=hy;refine⟨s.young,s.gone,bk s.depth (bk s.depth s.log (.refs a (a0E a s.refs))) (.back a),?_⟩;have e3:(fun s=>if 0<h0E s a then a0B (f0D a) (fun _ s=>h0D (s.gone++ [a]) s) s else ret () s) {s with log:=bk s.depth (bk s.depth s.log (.refs a (a0E a s.refs))) (.back a),refs:=b0C a s.refs,g:=mvL s.fr s.g a 1 2} =
    (.ok (),{s with log:=bk s.depth (bk s.depth s.log (.refs a (a0E a s.refs))) (.back a),refs:=b0C a s.refs,g:=mvL s.fr s.g a 1 2}):=by
    simp only[if_neg hy'];rfl
   rw[a0A e3];rfl
 obtain⟨yg,gn,lg,e⟩:=e;have r:=x0B a s hd h.u (by rw[e];simp);rw[e]at r;have hneed: ∀x,f0X (b0C a G) (f0I o++P) x=f0X G P x:=fun x=>by
  rw[s1E];unfold f0X;rw[k1D h.nod ho x];omega
 have hnk: ∀b u,a0E b G=some u→a ∉ f0I u:=fun b u hu hm=>v0N hu hm (by unfold f0X at hn;omega);refine⟨_,e,⟨r.ok,j0U a h.nod,h.lo,by show s.fr+(mvL _ _ _ _ _).length≤_;rw[n0J];exact h.hi,fun x hx=> ?_,fun x hx=> ?_,?_,fun x=> ?_,fun x u hu=> ?_,fun x u hu=> ?_,?_⟩,r,rfl,rfl,rfl,rfl⟩
 ·show a0E x (b0C a s.refs)=_;rw[c0M a x h.u.m.refs,hneed];by_cases e:a=x
  ·subst e;simp[hn]
  ·rw[if_neg e];have:=h.refs x hx;rw[n0K,if_neg e]at this;exact this
 ·rw[hneed,c0M a x h.nod];by_cases e:a=x
  ·subst e;simp[hn]
  ·rw[if_neg e];have:=h.live x hx;rw[n0K,if_neg e]at this;exact this
 ·rw[c0M a 0 h.nod,if_neg (h.ne0 ho)];exact h.zero
 ·show isB s.fr (mvL s.fr s.g a 1 2) x 1=true↔_;rw[m0J hB,c0M a x h.nod];by_cases e:x=a
  ·simp[e]
  ·rw[if_neg e,if_neg (Ne.symm e)];exact h.held x
 ·rw[c0M a x h.nod]at hu;split at hu
  ·cases hu
  ·exact h.disk x u hu
 ·rw[c0M a x h.nod]at hu;split at hu
  ·cases hu
  ·exact v2S h.nod (hnk x u hu) (h.typ x u hu)
 ·show(b0C a G).length=(mvL s.fr s.g a 1 2).count 1;have:=s1A ho;have h5:=s0E (w:=2) (x:=1) hB;have:=h.cnt;simp at h5;omega
theorem Inv.put {o:Ob} (h:Inv s G (f0I o++P)) (hok:x0C G o) (hl64:(l0I o).length=64) (hd:0<s.depth) (hl:s.log.length+4<1000000000) (hf:s.keep<(b0K s:Int)):
 ∃a s',e0M (l0I o) s=(.ok a,s')∧Inv s' ((a,o)::G) (a::P)∧Rel 3 1 s s'∧j0V s a∧s'.index=s.index∧s'.keep=s.keep∧s'.vols=s.vols∧s'.next=s.next:=by
 have hk:=h.u.keep;obtain⟨ha0,htk⟩:=y1Z (fr:=s.fr) (g:=s.g) (by unfold b0K at hf;omega);have bl: ∀(log:List c0P) st,(bk s.depth log st).length=log.length+1:=fun log st=>by simp[bk,hd]
 have hr:=p0K.1 ha0;have h1:=h.u.size;have h2:=h.lo;have e: ∃yg lg,e0M (l0I o) s=(.ok (b0Q s.fr s.g),{s with g:=g0V s.g,refs:=b0T (b0Q s.fr s.g) 1 s.refs,young:=yg,log:=lg,d:= {s.d with l:=s.d.l.set (b0Q s.fr s.g).toNat ((s.d.l.getD (b0Q s.fr s.g).toNat ([],[])).1,l0I o++a0K (64- (l0I o).length))}}):=by
  refine⟨b0T (b0Q s.fr s.g) 1 s.young,bk s.depth (bk s.depth (bk s.depth s.log (.give (b0Q s.fr s.g))) (.refs (b0Q s.fr s.g) (a0E (b0Q s.fr s.g) s.refs))) (.young (b0Q s.fr s.g) (a0E (b0Q s.fr s.g) s.young)),?_⟩;unfold e0M;rw[if_neg (by omega)];have e1:=t0Q (s:= {s with g:=g0V s.g}) (.give (b0Q s.fr s.g)) (by simp only;omega);simp only;rw[a0A (m:=fun s'=>back (.give (b0Q s.fr s.g)) {s' with g:=g0V s'.g}) e1];generalize b0Q s.fr s.g=a at*
  have e2:g0R a 1 {s with g:=g0V s.g,log:=bk s.depth s.log (.give a)} =(.ok (),{s with g:=g0V s.g,refs:=b0T a 1 s.refs,log:=bk s.depth (bk s.depth s.log (.give a)) (.refs a (a0E a s.refs))}):=by
   simp[g0R,a0B,back,bl,show ¬1000000000≤s.log.length+1 by omega]
  rw[a0A e2];have e3:l0N a 1 {s with g:=g0V s.g,refs:=b0T a 1 s.refs,log:=bk s.depth (bk s.depth s.log (.give a)) (.refs a (a0E a s.refs))} =(.ok (),{s with g:=g0V s.g,refs:=b0T a 1 s.refs,young:=b0T a 1 s.young,log:=bk s.depth (bk s.depth (bk s.depth s.log (.give a)) (.refs a (a0E a s.refs))) (.young a (a0E a s.young))}):=by
   simp[l0N,a0B,back,bl,show ¬1000000000≤s.log.length+1+1 by omega]
  rw[a0A e3];have e4:=h2B (b:=l0I o) h.u.run (a:=a) (by omega) (by omega);unfold a0B s0R;simp only[e4];rfl
 obtain⟨yg,lg,e⟩:=e;have r:=z0Q (l0I o) s hd h.u (by rw[e];simp);rw[e]at r;rw[htk]at e r;have hB:=ha0;have hne:b0Q s.fr s.g≠0:=by omega
 have hnn:a0E (b0Q s.fr s.g) G=none:=by
  cases hm:a0E (b0Q s.fr s.g) G with
  |none=>rfl
  |some u=>exact absurd (z0O ((h.held _).2 (by rw[hm];rfl)) ha0) (by decide)
 generalize b0Q s.fr s.g=a at*
 have hz:f0X G (f0I o++P) a=0:=by
  by_cases e:f0X G (f0I o++P) a=0
  ·exact e
  ·have:=(h.live a hne).1 e;rw[hnn]at this;cases this
 have hneed: ∀x,f0X ((a,o)::G) (a::P) x=f0X G (f0I o++P) x+if a=x then 1 else 0:=fun x=>by
  rw[n0K,s1E];unfold f0X;rw[n0V];omega
 refine⟨a,_,e,⟨r.ok,?_,h.lo,by show s.fr+(mvL _ _ _ _ _).length≤_;rw[n0J];exact h.hi,fun x hx=> ?_,fun x hx=> ?_,?_,fun x=> ?_,fun x u hu=> ?_,fun x u hu=> ?_,?_⟩,r,ha0,rfl,rfl,rfl,rfl⟩
 ·show((a,o)::G).map (·.1) |>.Nodup;rw[List.map_cons,List.nodup_cons];refine⟨fun hm=> ?_,h.nod⟩;obtain⟨⟨b,u⟩,hb,rfl⟩:=List.mem_map.1 hm;rw[(e0Q h.nod).2 hb]at hnn;cases hnn
 ·show a0E x (b0T a 1 s.refs)=_;rw[j0C,hneed];by_cases e:a=x
  ·subst e;simp[hz]
  ·rw[if_neg e,if_neg e];exact h.refs x hx
 ·rw[hneed,d0H];by_cases e:a=x
  ·subst e;simp
  ·rw[if_neg e,if_neg e];exact h.live x hx
 ·rw[d0H,if_neg hne];exact h.zero
 ·show isB s.fr (mvL s.fr s.g a 0 1) x 1=true↔_;rw[m0J hB,d0H];by_cases e:x=a
  ·simp[e]
  ·rw[if_neg e,if_neg (Ne.symm e)];exact h.held x
 ·rw[d0H]at hu;show m0P {s.d with l:=_} x.toNat=_;unfold m0P;simp only[List.getD_eq_getElem?_getD];by_cases e:a=x
  ·subst e;simp only[if_true,Option.some.injEq]at hu;subst hu;rw[List.getElem?_set_self (by omega)];simp[hl64,a0K]
  ·rw[if_neg e]at hu;have:=h.range hu;rw[List.getElem?_set_ne (by omega)];have:=h.disk x u hu;unfold m0P at this;simpa only[List.getD_eq_getElem?_getD] using this
 ·rw[d0H]at hu;by_cases e:a=x
  ·subst e;simp only[if_true,Option.some.injEq]at hu;subst hu;exact h2F hnn hne hok
  ·rw[if_neg e]at hu;exact h2F hnn hne (h.typ x u hu)
 ·show G.length+1=(mvL s.fr s.g a 0 1).count 1;have h5:=s0E (w:=1) (x:=1) hB;have:=h.cnt;simp at h5;omega
end
end
end Go.Sb

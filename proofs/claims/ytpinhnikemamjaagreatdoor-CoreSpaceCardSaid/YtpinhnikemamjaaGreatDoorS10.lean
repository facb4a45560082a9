/- Part of the proof; no statement of its own. -/
import Derived.Test.YtpinhnikemamjaaGreatDoorS09
import Derived.Test.YtpinhnikemamjaaGreatDoorProg
import Derived.KernelRfl
import Derived.Test.YtpinhnikemamjaaGreatDoorS08
import Derived.Test.YtpinhnikemamjaaGreatDoorS02
set_option linter.all false
set_option maxRecDepth 4000
set_option maxHeartbeats 4000000
namespace Go.Sb
section
inductive Ob where
 |part (b:B)
 |ext (data:B) (ats:List Int)
 |node (l:Nat) (kids:List Int) (sum:B)
abbrev Gh:=List (Int×Ob)
def d0O:Ob→List Int
 | .part _=> []
 | .ext _ ats=>ats
 | .node _ kids _=>kids
def n0C (G:Gh) (a:Int):Nat:=(G.map fun p=>(d0O p.2).count a).sum
def f0C (G:Gh) (P:List Int) (a:Int):Nat:=P.count a+n0C G a
def d0R (G:Gh) (a:Int):B:=match a0C a G with|some (.ext d _)=>Sha.sum d|some (.node _ _ s)=>s|_=>a0L 32
def m0K (data:B) (ats:List Int):Hd:= {at_:=ats,sums:=(List.range 4).map fun k=>if a0R (part data k)then 0 else g0G (part data k),sum:=Sha.sum data}
def l0J:Ob→B
 | .part b=>b
 | .ext d ats=>h0Z (m0K d ats)
 | .node l kids s=>j0L l {kids:=kids,sum:=s}
def a0W (G:Gh):Nat→Int→Prop
 |0,a=>a=0∨ ∃d ats,a0C a G=some (.ext d ats)
 |l+1,a=>a=0∨ ∃ks s,a0C a G=some (.node l ks s)
def v0S (G:Gh) (d:B) (ats:List Int) (k:Nat):Prop:=if a0R (part d k)=true then ats.getD k 0=0 else ats.getD k 0≠0∧a0C (ats.getD k 0) G=some (.part (part d k))
def x0X (G:Gh):Ob→Prop
 | .part b=>b.length=64
 | .ext d ats=>d.length=256∧a0R d=false∧ats.length=4∧ ∀k,k<4→v0S G d ats k
 | .node l kids s=>l<3∧kids.length=8∧kids≠e0L∧(∀k∈kids,a0W G l k)∧s=e0H l (kids.map (d0R G))
structure Inv (s:St) (G:Gh) (P:List Int):Prop where
 u:UOK s
 nod:mok G
 lo:s.fr=2
 hi:s.fr+s.g.length≤65535
 refs: ∀a,a≠0→a0C a s.refs=if f0C G P a=0 then none else some (f0C G P a:Int)
 live: ∀a,a≠0→(f0C G P a≠0↔(a0C a G).isSome=true)
 zero:a0C 0 G=none
 held: ∀a,isB s.fr s.g a 1=true↔(a0C a G).isSome=true
 disk: ∀a o,a0C a G=some o→n0A s.d a.toNat=l0J o
 typ: ∀a o,a0C a G=some o→x0X G o
 cnt:G.length=s.g.count 1
 lone: ∀a b,a0C a G=some (.part b)→f0C G P a=1
def Idx (s:St) (G:Gh):Prop:= ∀k a,a0C k s.index=some a↔ ∃d ats,a0C a G=some (.ext d ats)∧k=key s.bits (Sha.sum d)
theorem o0L (a:Int) (o:Ob) (G:Gh) (x:Int):n0C ((a,o)::G) x=(d0O o).count x+n0C G x:=by simp[n0C]
theorem b1W {a:Int} {o:Ob} : ∀ {G:Gh},mok G→a0C a G=some o→ ∀x,n0C G x=(d0O o).count x+n0C (b0D a G) x
 | [],_,h,_=>by simp[a0C]at h
 | (i,u)::G,hm,h,x=>by
  have h':i ∉ G.map (·.1)∧mok G:=by simpa [mok] using hm
  by_cases e:i=a
  ·subst e;simp only[a0C,if_pos,Option.some.injEq]at h;subst h;simp[b0D,o0L]
  ·simp only[a0C,if_neg e]at h;simp only[b0D,if_neg e,o0L,b1W h'.2 h x];omega
theorem t0L {a:Int} {o:Ob} {x:Int} : ∀ {G:Gh},a0C a G=some o→x∈d0O o→n0C G x≠0
 | [],h,_=>by simp[a0C]at h
 | (i,u)::G,h,hx=>by
  rw[o0L];by_cases e:i=a
  ·subst e;simp only[a0C,if_pos,Option.some.injEq]at h;subst h;have:=List.count_pos_iff.2 hx;omega
  ·simp only[a0C,if_neg e]at h;have:=t0L h hx;omega
theorem t1P {K V:Type} [DecidableEq K] {k:K} {v:V} : ∀ {m:List (K×V)},a0C k m=some v→(b0D k m).length+1=m.length
 | [],h=>by simp[a0C]at h
 | (i,u)::m,h=>by
  by_cases e:i=k
  ·subst e;simp[b0D]
  ·simp only[a0C,if_neg e]at h;simp[b0D,e,t1P h]
theorem b1X {l:B} {n:Nat} (h:a0R l=true) (hn:l.length=n):l=a0L n:=by
 subst hn;unfold a0R at h;rw[List.all_eq_true]at h;exact List.eq_replicate_iff.2 ⟨rfl,fun x hx=>by simpa using h x hx⟩
theorem j0M (n:Nat):(a0L n).length=n:=by simp[a0L]
theorem b2G (v:List Sha.W) (k w:Sha.W):(Sha.rnd v k w).length=8:=rfl
theorem t1Q (w v:List Sha.W) (h:v.length=8): ∀n,(Sha.j0U w v n).length=8
 |0=>h
 |_+1=>rfl
theorem b2H {h:List Sha.W} (hh:h.length=8) (b:B):(Sha.mix h b).length=8:=by
 unfold Sha.mix;rw[List.length_zipWith,t1Q _ _ hh,hh];rfl
theorem p1U: ∀(n:Nat) {h:List Sha.W} (_:h.length=8) (b:B),(Sha.f0J n h b).length=8
 |0,_,hh,_=>hh
 |n+1,_,hh,b=>p1U n (b2H hh _) _
theorem p0Z (b:B):(Sha.sum b).length=32:=by
 unfold Sha.sum;rw[i0J (k:=4) fun _=>rfl,p1U _ rfl]
theorem t0M (l:Nat) (ss:List B):(e0H l ss).length=32:=by
 unfold e0H;split
 ·exact j0M 32
 ·exact p0Z _
theorem j1F {d:B} {k:Nat} (hd:d.length=256) (hk:k<4):(part d k).length=64:=by unfold part;simp;omega
section
variable {s:St} {G:Gh} {P:List Int}
theorem Inv.ne0 (h:Inv s G P) {a:Int} {o:Ob} (ho:a0C a G=some o):a≠0:=by
 rintro rfl;rw[h.zero]at ho;cases ho
theorem Inv.range (h:Inv s G P) {a:Int} {o:Ob} (ho:a0C a G=some o):0<a∧a<65536∧(s.fr:Int)≤a∧a<s.d.l.length:=by
 have h1:=n0O.1 ((h.held a).2 (by rw[ho];rfl));have h2:=h.u.size;have h3:=h.hi;have h4:=h.lo;omega
theorem Inv.refsOf (h:Inv s G P) {a:Int} (ha:a≠0):c0N s a=f0C G P a:=by
 unfold Go.Sb.c0N;rw[h.refs a ha];by_cases e:f0C G P a=0
 ·simp[e]
 ·simp[e]
theorem Inv.need_pos (h:Inv s G P) {a:Int} {o:Ob} (ho:a0C a G=some o):f0C G P a≠0:=(h.live a (h.ne0 ho)).2 (by rw[ho];rfl)
theorem Inv.get (h:Inv s G P) {a:Int} {o:Ob} (ho:a0C a G=some o):g0X a s=(.ok (l0J o),s):=by
 have h1:=h.refsOf (h.ne0 ho);have h2:=h.need_pos ho;have h3:=h.range ho;unfold g0X;rw[if_neg (by omega)];unfold n0U;rw[h.u.run.2];simp only[Bool.false_eq_true,if_false];rw[if_neg (by omega)];have:=h.disk a o ho;unfold n0A at this;rw[this]
theorem Inv.kid_range (h:Inv s G P) {l:Nat} {a:Int} (ha:a0W G l a):0≤a∧a<65536:=by
 cases l with
 |zero=>
  rcases ha with rfl| ⟨d,ats,ho⟩
  ·omega
  ·have:=h.range ho;omega
 |succ l=>
  rcases ha with rfl| ⟨d,ats,ho⟩
  ·omega
  ·have:=h.range ho;omega
theorem Inv.load (h:Inv s G P) {a:Int} {l:Nat} {kids:List Int} {sum:B} (ho:a0C a G=some (.node l kids sum)):load a l s=(.ok {kids:=kids,sum:=sum},s):=by
 obtain⟨t1,t2,t3,t4,t5⟩:=h.typ a _ ho;have hb:=b2F (x:= {kids:=kids,sum:=sum}) (l:=l) (by omega) ⟨t2,fun x hx=>h.kid_range (t4 x hx),by rw[t5];exact t0M _ _⟩;unfold Go.Sb.load;rw[if_neg (h.ne0 ho),a0A (h.get ho)];show(g0C l (j0L l _),s)=_;rw[hb.1]
theorem z2P (l:Nat) (s:St):load 0 l s=(.ok {kids:=e0L,sum:=a0L 32},s):=by unfold load;rw[if_pos rfl];rfl
theorem x2R (h:Inv s G P) {a:Int} {d:B} {ats:List Int} (ho:a0C a G=some (.ext d ats)):HdOK (m0K d ats):=by
 obtain⟨t1,t2,t3,t4⟩:=h.typ a _ ho;refine⟨t3,fun x hx=> ?_,by simp[m0K],fun c hc=> ?_,p0Z _⟩
 ·have hx':x∈ats:=hx;obtain⟨k,hk,rfl⟩:=List.getElem_of_mem hx';have hk4:k<4:=by omega
  have e:ats.getD k 0=ats[k]:=by rw[List.getD_eq_getElem?_getD,List.getElem?_eq_getElem hk];rfl
  have:=t4 k hk4;unfold v0S at this;rw[e]at this;show 0≤ats[k]∧ats[k]<65536;split at this
  ·omega
  ·have:=h.range this.2;omega
 ·obtain⟨k,_,rfl⟩:=List.mem_map.1 hc;split
  ·decide
  ·exact Nat.lt_of_lt_of_eq (g1P _) (by decide)
theorem Inv.xhead (h:Inv s G P) {a:Int} {d:B} {ats:List Int} (ho:a0C a G=some (.ext d ats)):e0U a s=(.ok (m0K d ats),s):=by
 unfold Go.Sb.e0U;rw[a0A (h.get ho)];show(i0B (h0Z _),s)=_;rw[(b2E (x2R h ho)).1]
theorem Inv.xparts (h:Inv s G P) {a:Int} {d:B} {ats:List Int} (ho:a0C a G=some (.ext d ats)): ∀n,n≤4→g0A (m0K d ats) n s=(.ok (d.drop (64*(4-n))),s)
 |0,_=>by
  have:=(h.typ a _ ho).1;unfold Go.Sb.g0A;rw[List.drop_eq_nil_of_le (by omega)];rfl
 |n+1,hn=>by
  obtain⟨t1,t2,t3,t4⟩:=h.typ a _ ho;have ih:=h.xparts ho n (by omega);have ht:=t4 (4- (n+1)) (by omega);have e0:part d (4- (n+1))++d.drop (64*(4-n))=d.drop (64*(4- (n+1))):=by
   rw[show 64*(4-n)=64*(4- (n+1))+64 by omega,←List.drop_drop];exact List.take_append_drop _ _
  have hs:(m0K d ats).sums.getD (4- (n+1)) 0=if a0R (part d (4- (n+1)))then 0 else g0G (part d (4- (n+1))):=by
   have:n=0∨n=1∨n=2∨n=3:=by omega
   rcases this with rfl|rfl|rfl|rfl<;>rfl
  unfold Go.Sb.g0A;unfold v0S at ht;have e1:(if 0<(m0K d ats).at_.getD (4- (n+1)) 0 then a0B (g0X ((m0K d ats).at_.getD (4- (n+1)) 0)) fun s=>if g0G s≠(m0K d ats).sums.getD (4- (n+1)) 0 then n0L 11 else ret s else ret (a0L 64):M B) s=(.ok (part d (4- (n+1))),s):=by
   show(if 0<ats.getD (4- (n+1)) 0 then _ else _:M B) s=_;by_cases hz:a0R (part d (4- (n+1)))=true
   ·rw[if_pos hz]at ht;rw[ht,if_neg (by omega),b1X hz (j1F t1 (by omega))];rfl
   ·rw[if_neg hz]at ht;have:=h.range ht.2;rw[if_pos (by omega)];show a0B (g0X (ats.getD (4- (n+1)) 0)) _ s=_;rw[a0A (h.get ht.2),hs,if_neg hz];show(if g0G (part d (4- (n+1)))≠g0G (part d (4- (n+1)))then n0L 11 else ret (part d (4- (n+1))):M B) s=_;rw[if_neg (by simp)];rfl
  simp only;rw[a0A e1,a0A ih,←e0];rfl
theorem Inv.xget (h:Inv s G P) {a:Int} {d:B} {ats:List Int} (ho:a0C a G=some (.ext d ats)):l0D a s=(.ok d,s):=by
 unfold Go.Sb.l0D;rw[if_neg (h.ne0 ho),a0A (h.xhead ho),h.xparts ho 4 (by omega)];rfl
theorem z2Q (s:St):l0D 0 s=(.ok (a0L 256),s):=by unfold l0D;rw[if_pos rfl];rfl
def d0F (G:Gh) (a:Int):B:=match a0C a G with|some (.ext d _)=>d|_=>a0L 256
theorem Inv.leaf (h:Inv s G P) {a:Int} (ha:a0W G 0 a):Go.Sb.l0D a s=(.ok (d0F G a),s):=by
 rcases ha with rfl| ⟨d,ats,ho⟩
 ·rw[z2Q];unfold d0F;rw[h.zero]
 ·rw[h.xget ho];unfold d0F;rw[ho]
theorem Inv.xsum (h:Inv s G P) {a:Int} (ha:a0W G 0 a):r0X a s=(.ok (d0R G a),s):=by
 unfold Go.Sb.r0X;rcases ha with rfl| ⟨d,ats,ho⟩
 ·rw[if_pos rfl];unfold d0R;rw[h.zero];rfl
 ·rw[if_neg (h.ne0 ho),a0A (h.xhead ho)];unfold d0R;rw[ho];rfl
def b0G (G:Gh) (a:Int):List Int:=match a0C a G with|some (.node _ ks _)=>ks|_=>e0L
theorem Inv.loadK (h:Inv s G P) {a:Int} {l:Nat} (ha:a0W G (l+1) a):Go.Sb.load a l s=(.ok {kids:=b0G G a,sum:=d0R G a},s):=by
 rcases ha with rfl| ⟨ks,sm,ho⟩
 ·rw[z2P];unfold b0G d0R;rw[h.zero]
 ·rw[h.load ho];unfold b0G d0R;rw[ho]
theorem j2H (G:Gh) (l:Nat): ∀k∈e0L,a0W G l k:=by
 intro k hk;have:k=0:=by simpa [e0L] using hk
 cases l<;>exact .inl this
theorem Inv.kids (h:Inv s G P) {a:Int} {l:Nat} (ha:a0W G (l+1) a):(b0G G a).length=8∧ ∀k∈b0G G a,a0W G l k:=by
 rcases ha with rfl| ⟨ks,sm,ho⟩
 ·unfold b0G;rw[h.zero];exact⟨rfl,j2H G l⟩
 ·unfold b0G;rw[ho];obtain⟨t1,t2,t3,t4,t5⟩:=h.typ a _ ho;exact⟨t2,t4⟩
theorem g0Z {l:List Int} {i:Nat} (h:i<l.length):l.getD i 0∈l:=by
 rw[List.getD_eq_getElem?_getD,List.getElem?_eq_getElem h];exact List.getElem_mem h
def c0P (G:Gh):Nat→Int→Nat→Int
 |0,root,i=>(b0G G root).getD (b0Q 0 i).1 0
 |l+1,root,i=>c0P G l ((b0G G root).getD (b0Q (l+1) i).1 0) (b0Q (l+1) i).2
theorem q0A (l i:Nat):(b0Q l i).1<8:=by unfold b0Q;exact Nat.mod_lt _ (by decide)
theorem Inv.leafKid (h:Inv s G P): ∀(l:Nat) {root:Int} (_:a0W G (l+1) root) (i:Nat),a0W G 0 (c0P G l root i)
 |0,root,hr,i=>(h.kids hr).2 _ (g0Z (by rw[(h.kids hr).1];exact q0A 0 i))
 |l+1,root,hr,i=>h.leafKid l ((h.kids hr).2 _ (g0Z (by rw[(h.kids hr).1];exact q0A (l+1) i))) _
theorem Inv.rget (h:Inv s G P): ∀(l:Nat) {root:Int} (_:a0W G (l+1) root) (i:Nat),l0E l root i s=(.ok (c0P G l root i),s)
 |0,root,hr,i=>by unfold Go.Sb.l0E;rw[a0A (h.loadK hr)];rfl
 |l+1,root,hr,i=>by
  unfold Go.Sb.l0E;rw[a0A (h.loadK hr)];exact h.rget l ((h.kids hr).2 _ (g0Z (by rw[(h.kids hr).1];exact q0A (l+1) i))) _
theorem Inv.rsums (h:Inv s G P) (l:Nat): ∀ks:List Int,(∀k∈ks,a0W G l k)→h0F l ks s=(.ok (ks.map (d0R G)),s)
 | [],_=>rfl
 |k::ks,hk=>by
  have ih:=h.rsums l ks fun x hx=>hk x (List.mem_cons_of_mem _ hx);have h0:=hk k (List.mem_cons_self ..);unfold Go.Sb.h0F;cases l with
  |zero=>rw[a0A (h.xsum h0),a0A ih];rfl
  |succ l=>
   have e:(a0B (Go.Sb.load k l) fun x=>ret x.sum:M B) s=(.ok (d0R G k),s):=by rw[a0A (h.loadK h0)];rfl
   simp only;rw[a0A e,a0A ih];rfl
end
end
end Go.Sb
namespace Go.Proofs.Q
section
open Go
end
section
open Go
end
section
open Go
end
section
open Go
end
section
open Go
end
section
open Go
end
end Go.Proofs.Q
namespace Go.Sl
section
section
variable {c:Cx} {ops:Array Oper} {Q:Exit→Act→World→Prop} {K:List a0E} {steps:l0A} {env:List (Nat×Value)} {L:List a0E}
theorem h0B (hK: ∀w,Sat w L→Sat w K) (h:OM c ops Q K steps env L):KW c (Exit.then (KM c ops Q K steps) Q) .normal env L:=by
 intro a w hh;have hs:Sat w K:=hK w hh.sat;exact⟨⟨hs,hh.like⟩,fun l hB hn hQ=>h l a w hB hn hQ hh hs⟩
theorem a1U {id:Nat} {l:List Oper} (steps:l0A) (K:List a0E) (hm:c.P.follows .mixedOrders=true)
 (hB:(Region.noSelect l.toArray&&(Nat.beq steps.len l.length&&l0P l.toArray steps (Array.replicate l.length false)))=true) (hQ:b0T Q) (hK: ∀w,Sat w L→Sat w K) (h:OM c l.toArray Q K steps env L):CW c (.region id l.toArray true) Q env L:=by
 intro a w hh;simp only[Bool.and_eq_true]at hB;have hh':=hh.drew;have hs:Sat w.drew K:=hK _ hh'.sat;have h1:=h _ a w.drew hB.2.2 hB.1 hQ hh' hs;refine wp_region_held (S:=q0M c K) hm ?_;have e:steps.len=l.toArray.size:=by simpa using Nat.eq_of_beq_eq_true hB.2.1
 rw[←e];have e2:Array.replicate steps.len false=Array.replicate l.length false:=by rw[Nat.eq_of_beq_eq_true hB.2.1]
 rw[e2];exact h1
end
end
end Go.Sl
namespace Go.Sb
inductive Car (α:Type) where
 |start
 |done (a:α)
 |lost
def f0P {α:Type} (m:M α):Run (St×Car α) Unit:=fun x=>match m x.1 with
 | (.ok a,t)=>(.ok (),(t,.done a))
 | (.err e,t)=>(.err e,(t,.lost))
 | (.big,t)=>(.big,(t,.lost))
def t1U {α:Type} (m:M α):Run (St×Car α) Int:=o0J (f0P m)
def i0K {α:Type} (m:M α):M (Int×Car α):=fun s=>match t1U m (s,.start)with
 | (.ok e,(t,c))=>(.ok (e,c),t)
 | (.err e,(t,_))=>(.err e,t)
 | (.big,(t,_))=>(.big,t)
def e0M {α:Type} (more:Nat) (m:M α):M α:=a0B (k0C more) fun _=>m
def b1Z {α:Type} (d:α):Car α→α
 | .done a=>a
 |_=>d
def h0J (x:Ent) (at_ n:Int):M Unit:=if 5000<x.size then fun s=>(.big,s)else l0U x at_ n
def k0K (made:M Ent):M (Int×Int):=fun s=>
 if 16≤s.vols.length then(.ok (0,13),s)else
 a0B (i0K (e0M 1 (a0B made u0I))) (fun r=>ret (if r.1=0 then(b1Z 0 r.2,0)else(0,r.1))) s
def f0T (size:Int):M (Int×Int):=if size<1∨2048<size then ret (0,4)else k0K (ret {g0L with size:=size})
def w0L (id:Int) (only:Bool):M Ent:=a0B (find id) fun x=>a0B (h0E x.root 3) fun _=>ret {g0L with parent:=id,only:=only,size:=x.size,root:=x.root}
def h0S (id:Int) (only:Bool):M (Int×Int):=fun s=>match a0C id s.vols with
 |none=>(.ok (0,5),s)
 |some _=>k0K (w0L id only) s
def i0X (id at_:Int) (data:B):M Unit:=a0B (l0Z id) fun x=>if data.length%64≠0 then n0L 4 else
 a0B (h0J x at_ (data.length/64:Nat)) fun _=>a0B (e0T x at_.toNat data) m0H
def h0K (id at_:Int) (data:B):M Int:=a0B (i0K (e0M 0 (i0X id at_ data))) fun r=>ret r.1
def o0S (id at_ n:Int):M B:=a0B (find id) fun x=>a0B (h0J x at_ n) fun _=>k0D n.toNat x at_.toNat n.toNat
def n0Y (id at_ n:Int):M (B×Int):=a0B (i0K (o0S id at_ n)) fun r=>ret (if r.1=0 then(b1Z [] r.2,0)else([],r.1))
end Go.Sb
namespace Go.Sb.Sha
def b2M {α:Type} (n:Nat) (k:Nat→α):α:=match n with
 |0=>k 0
 |m+1=>k (m+1)
theorem e2L {α:Type} (n:Nat) (k:Nat→α):b2M n k=k n:=by cases n<;>rfl
def st {α:Type} (x:W) (k:W→α):α:=b2M x.toNat fun n=>k (BitVec.ofNat 32 n)
theorem s1D {α:Type} (x:W) (k:W→α):st x k=k x:=by unfold st;rw[e2L];simp
def go:List W→W→W→W→W→W→W→W→W→List W
 | [],a,b,c,d,e,f,g,h=> [a,b,c,d,e,f,g,h]
 |x::l,a,b,c,d,e,f,g,h=>
  st (h+x+t1 e+(e &&& f ^^^ ~~~e &&& g)) fun t=>st (d+t) fun e'=>st (t+(t0 a+(a &&& b ^^^ a &&& c ^^^ b &&& c))) fun a'=>go l a' a b c e' e f g
def wk (b:List UInt8):List W:=List.zipWith (· + ·) e0N (k0U b)
def j1J (v:List W) (x:W):List W:=
 let e:=at_ v 4;let a:=at_ v 0
 let t:=at_ v 7+x+t1 e+(e &&& at_ v 5 ^^^ ~~~e &&& at_ v 6)
 let u:=t0 a+(a &&& at_ v 1 ^^^ a &&& at_ v 2 ^^^ at_ v 1 &&& at_ v 2)
 [t+u,a,at_ v 1,at_ v 2,at_ v 3+t,e,at_ v 5,at_ v 6]
theorem u2B (v:List W) (k w:W):rnd v k w=j1J v (k+w):=by unfold rnd j1J;simp only[BitVec.add_assoc]
theorem s2K: ∀(l:List W) (a b c d e f g h:W),go l a b c d e f g h=l.foldl j1J [a,b,c,d,e,f,g,h]
 | [],a,b,c,d,e,f,g,h=>rfl
 |x::l,a,b,c,d,e,f,g,h=>by
  unfold go;rw[s1D,s1D,s1D,s2K,List.foldl_cons];rfl
theorem b2N (w v:List W): ∀n,n≤64→64≤w.length→j0U w v n=((List.zipWith (· + ·) e0N w).take n).foldl j1J v
 |0,_,_=>rfl
 |n+1,h,hw=>by
  have h64:e0N.length=64:=rfl;have hl:n<(List.zipWith (· + ·) e0N w).length:=by rw[List.length_zipWith];omega
  rw[List.take_succ,List.getElem?_eq_getElem hl,List.foldl_append,←b2N w v n (by omega) hw];show rnd (j0U w v n) (at_ e0N n) (at_ w n)=j1J _ _;rw[u2B];congr 1;unfold at_;rw[List.getElem_zipWith,List.getD_eq_getElem?_getD,List.getD_eq_getElem?_getD,List.getElem?_eq_getElem (by omega),List.getElem?_eq_getElem (by omega)];rfl
theorem s0J: ∀(n:Nat) (w:List W),(more n w).length=w.length+n
 |0,w=>rfl
 |n+1,w=>by unfold more;rw[s0J n];simp;omega
theorem p1W (b:List UInt8):(k0U b).length=64:=by unfold k0U f0S;rw[s0J];simp
def k0R (h l:List W):List W:=List.zipWith (· + ·) h (l.foldl j1J h)
theorem j2L (h:List W) (b:List UInt8):mix h b=k0R h (wk b):=by
 have h64:e0N.length=64:=rfl;unfold mix k0R wk;rw[b2N _ _ 64 (Nat.le_refl _) (by rw[p1W];exact Nat.le_refl _),List.take_of_length_le (by rw[List.length_zipWith];omega)]
def c1B {α:Type} (h l:List W) (k:List W→List α):List α:=match h with
 | [a,b,c,d,e,f,g,i]=>match go l a b c d e f g i with
  | [a',b',c',d',e',f',g',i']=>st (a+a') fun a=>st (b+b') fun b=>st (c+c') fun c=>st (d+d') fun d=>st (e+e') fun e=>st (f+f') fun f=>st (g+g') fun g=>st (i+i') fun i=>k [a,b,c,d,e,f,g,i]
  |_=> []
 |_=> []
theorem p1X (l:List W): ∀(v:List W),v.length=8→(l.foldl j1J v).length=8:=by
 induction l with
 |nil=>intro v h;exact h
 |cons x l ih=>intro v h;exact ih _ rfl
theorem s1E {α:Type} : ∀(l:List α),l.length=8→ ∃a b c d e f g h,l= [a,b,c,d,e,f,g,h]
 | [a,b,c,d,e,f,g,h],_=>⟨a,b,c,d,e,f,g,h,rfl⟩
theorem h0A {h l:List W} (hh:h.length=8):(k0R h l).length=8:=by unfold k0R;rw[List.length_zipWith,p1X l h hh,hh];rfl
theorem o0X {α:Type} {h l:List W} (hh:h.length=8) (k:List W→List α):c1B h l k=k (k0R h l):=by
 have h2:=p1X l h hh;obtain⟨a,b,c,d,e,f,g,i,rfl⟩:=s1E h hh;unfold k0R;unfold c1B;simp only;rw[s2K];obtain⟨a',b',c',d',e',f',g',i',h3⟩:=s1E _ h2;rw[h3];simp only[s1D,List.zipWith_cons_cons,List.zipWith_nil_left]
end Go.Sb.Sha
namespace Go.Sb
abbrev Lf:=Int×B
def f0Y (at_:Int):List Lf→B
 | []=>a0L 256
 | (a,d)::r=>if a=at_ then d else f0Y at_ r
def p0L (at_:Int) (d:B):Bool→List Lf→List Lf
 |done,[]=>if done then []else [(at_,d)]
 |done,(a,x)::r=>(if done=false∧at_<a then [(at_,d)]else [])++(if a=at_ then []else [(a,x)])++p0L at_ d (done || decide (at_<a)) r
def k0L (m:List Lf) (at_:Int) (d:B):List Lf:=p0L at_ d (a0R d) m
def h0G (m:List Lf) (f t:Int):List Lf:=m.filter fun x=>decide (x.1<f∨t≤x.1)
structure Vp where
 id:Int
 parent:Int
 only:Bool
 size:Int
 born:Int
 m:List Lf
structure Rp where
 l:List Vp
 next:Int
 bits:Nat
 epoch:Int
def c0Q (l:List Vp) (id:Int):Option Nat:=l.findIdx? fun v=>v.id == id
def e1O (l:List Vp) (id:Int):Int:=match c0Q l id with|some i=>i|none=> -1
def v0:Vp:= {id:=0,parent:=0,only:=false,size:=0,born:=0,m:= []}
def g0M (c:Rp) (v:Vp):Rp×Int×Int:=if 15<c.l.length then(c,0,13)else
 ({c with l:=c.l++ [{v with id:=c.next,born:=c.epoch}],next:=c.next+1},c.next,0)
def e0R (c:Rp) (size:Int):Rp×Int×Int:=if size<1∨2048<size then(c,0,4)else g0M c {v0 with size:=size}
def i0P (c:Rp) (id:Int) (only:Bool):Rp×Int×Int:=match c0Q c.l id with
 |none=>(c,0,5)
 |some i=>g0M c {v0 with parent:=id,only:=only,size:=(c.l.getD i v0).size,m:=(c.l.getD i v0).m}
def g0R (c:Rp) (id:Int):Rp×Int:=match c0Q c.l id with
 |none=>(c,5)
 |some i=>({c with l:=c.l.eraseIdx i},0)
def m0Q (v:Vp) (at_ n:Int):Bool:=decide (at_<0∨n<0∨v.size<at_∨v.size-at_<n)
def k0X (m:List Lf) (at_:Nat):Nat→B
 |0=> []
 |n+1=>k0X m at_ n++((f0Y ((at_+n)/4:Nat) m).drop ((at_+n)%4*64)).take 64
def m0A (c:Rp) (id at_ n:Int):B×Int:=match c0Q c.l id with
 |none=>([],5)
 |some i=>if m0Q (c.l.getD i v0) at_ n then([],6)else(k0X (c.l.getD i v0).m at_.toNat n.toNat,0)
def p0T (c:Rp) (data:B):Bool:=c.l.any fun v=>v.m.any fun x=>decide (x.2≠data∧key c.bits (Sha.sum x.2)=key c.bits (Sha.sum data))
def d0K (c:Rp) (i:Nat) (m:List Lf):Rp:= {c with l:=c.l.set i {c.l.getD i v0 with m:=m}}
def c1C (was data:B) (f n:Nat):B:=was.take f++data.take n++was.drop (f+n)
def d0I (i:Nat):Nat→Rp→Nat→B→Rp×Int
 |0,c,_,_=>(c,0)
 |k+1,c,at_,data=>if data= []then(c,0)else
  let was:=f0Y (at_/4:Nat) (c.l.getD i v0).m;let f:=at_%4*64;let n:=min data.length (256-f)
  let now:=c1C was data f n
  if now≠was∧a0R now=false∧p0T c now=true then(c,9)else
  d0I i k (d0K c i (k0L (c.l.getD i v0).m (at_/4:Nat) now)) (at_+n/64) (data.drop n)
def i0Y (c:Rp) (id at_:Int) (data:B):Rp×Int:=match c0Q c.l id with
 |none=>(c,5)
 |some i=>if(c.l.getD i v0).only then(c,7)else if data.length%64≠0 then(c,4)else if m0Q (c.l.getD i v0) at_ (data.length/64:Nat)then(c,6)else
  let r:=d0I i data.length c at_.toNat data
  if r.2≠0 then(c,r.2)else(r.1,0)
def e0A (c:Rp) (i from_ upto:Nat):Rp×Int:=
 let a:=(from_+3)/4;let b:=upto/4
 if b≤a then d0I i ((upto-from_)*64) c from_ (a0L ((upto-from_)*64))else
 let r:=d0I i ((4*a-from_)*64) c from_ (a0L ((4*a-from_)*64))
 if r.2≠0 then(c,r.2)else
 let x:=d0K r.1 i (h0G (r.1.l.getD i v0).m a b)
 let y:=d0I i ((upto-4*b)*64) x (4*b) (a0L ((upto-4*b)*64))
 if y.2≠0 then(c,y.2)else(y.1,0)
def l0S (c:Rp) (id at_ n:Int):Rp×Int:=match c0Q c.l id with
 |none=>(c,5)
 |some i=>if(c.l.getD i v0).only then(c,7)else if m0Q (c.l.getD i v0) at_ n then(c,6)else e0A c i at_.toNat (at_+n).toNat
def g0S (c:Rp) (id size:Int):Rp×Int:=match c0Q c.l id with
 |none=>(c,5)
 |some i=>if(c.l.getD i v0).only then(c,7)else if size<1∨2048<size then(c,4)else
  let r:=if size<(c.l.getD i v0).size then e0A c i size.toNat (c.l.getD i v0).size.toNat else(c,0)
  if r.2≠0 then(c,r.2)else({r.1 with l:=r.1.l.set i {r.1.l.getD i v0 with size:=size}},0)
structure m0R (m:List Lf):Prop where
 ord:m.Pairwise fun a b=>a.1<b.1
 in_: ∀x∈m,0≤x.1∧x.1<512∧x.2.length=256
theorem j1K (j:Int):f0Y j []=a0L 256:=rfl
theorem j0O (j a:Int) (d:B) (r:List Lf):f0Y j ((a,d)::r)=if a=j then d else f0Y j r:=rfl
theorem b2P: ∀ {m:List Lf} {lo:Int},(m.Pairwise fun a b=>a.1<b.1)→(∀x∈m,lo≤x.1∧x.1<512)→lo≤512→(m.length:Int)≤512-lo
 | [],lo,_,_,h=>by simp;omega
 |x::m,lo,hp,hi,h=>by
  obtain⟨h1,h2⟩:=List.pairwise_cons.1 hp;have h3:=hi x List.mem_cons_self;have:=b2P (m:=m) (lo:=x.1+1) h2 (fun y hy=>⟨by have:=h1 y hy;omega,(hi y (List.mem_cons_of_mem _ hy)).2⟩) (by omega);simp only[List.length_cons];omega
theorem m0R.len {m:List Lf} (h:m0R m):m.length≤512:=by
 have:=b2P (lo:=0) h.ord (fun x hx=>⟨(h.in_ x hx).1,(h.in_ x hx).2.1⟩) (by omega);omega
theorem p1Y:m0R []:=⟨List.Pairwise.nil,fun x h=>by cases h⟩
theorem m0R.get_len {m:List Lf} (h:m0R m) (at_:Int):(f0Y at_ m).length=256:=by
 have: ∀l:List Lf,(∀x∈l,x.2.length=256)→(f0Y at_ l).length=256:=fun l=>by
  induction l with
  |nil=>intro _;exact List.length_replicate ..
  |cons x l ih=>
   intro hl;obtain⟨a,d⟩:=x;unfold f0Y;split
   ·exact hl (a,d) List.mem_cons_self
   ·exact ih fun y hy=>hl y (List.mem_cons_of_mem _ hy)
 exact this m fun x hx=>(h.in_ x hx).2.2
theorem l1L (at_:Int) (d:B) (done:Bool) (x:Lf) (r:List Lf):p0L at_ d done (x::r)=(if done=false∧at_<x.1 then [(at_,d)]else [])++(if x.1=at_ then []else [x])++p0L at_ d (done || decide (at_<x.1)) r:=by cases x;rfl
theorem c1D (at_:Int) (d:B): ∀(m:List Lf) (done:Bool) (x:Lf),x∈p0L at_ d done m→(x∈m∧x.1≠at_)∨(done=false∧x=(at_,d))
 | [],done,x,h=>by
  unfold p0L at h;split at h
  ·cases h
  ·rename_i hd;exact .inr ⟨by simpa using hd,List.mem_singleton.1 h⟩
 |y::r,done,x,h=>by
  rw[l1L]at h;rcases List.mem_append.1 h with h|h
  ·rcases List.mem_append.1 h with h|h
   ·split at h
    ·rename_i hd;exact .inr ⟨hd.1,List.mem_singleton.1 h⟩
    ·cases h
   ·split at h
    ·cases h
    ·rename_i hne;rw[List.mem_singleton.1 h];exact .inl ⟨List.mem_cons_self,hne⟩
  ·rcases c1D at_ d r _ x h with ⟨h1,h2⟩| ⟨h1,h2⟩
   ·exact .inl ⟨List.mem_cons_of_mem _ h1,h2⟩
   ·exact .inr ⟨by cases done<;>simp_all,h2⟩
theorem u1D (at_:Int) (d:B): ∀(m:List Lf) (done:Bool),(m.Pairwise fun a b=>a.1<b.1)→(p0L at_ d done m).Pairwise fun a b=>a.1<b.1
 | [],done,_=>by unfold p0L;split<;>simp
 |x::r,done,hp=>by
  obtain⟨h1,h2⟩:=List.pairwise_cons.1 hp;have ih:=u1D at_ d r (done || decide (at_<x.1)) h2;have hm:=c1D at_ d r (done || decide (at_<x.1));rw[l1L];by_cases hlt:at_<x.1
  ·have hgt: ∀y∈p0L at_ d (done || decide (at_<x.1)) r,x.1<y.1:=fun y hy=>by
    rcases hm y hy with ⟨h3,_⟩| ⟨h3,_⟩
    ·exact h1 y h3
    ·rw[decide_eq_true hlt,Bool.or_true]at h3;cases h3
   rw[if_neg (show ¬x.1=at_ by omega)];split
   ·simp only[List.singleton_append,List.cons_append,List.nil_append];refine List.pairwise_cons.2 ⟨fun y hy=> ?_,List.pairwise_cons.2 ⟨hgt,ih⟩⟩;rcases List.mem_cons.1 hy with rfl|hy
    ·exact hlt
    ·exact Int.lt_trans hlt (hgt y hy)
   ·exact List.pairwise_cons.2 ⟨hgt,ih⟩
  ·rw[if_neg (fun h=>hlt h.2)];by_cases he:x.1=at_
   ·rw[if_pos he];exact ih
   ·rw[if_neg he];refine List.pairwise_cons.2 ⟨fun y hy=> ?_,ih⟩;rcases hm y hy with ⟨h3,_⟩| ⟨_,rfl⟩
    ·exact h1 y h3
    ·show x.1<at_;omega
theorem m0R.put {m:List Lf} (h:m0R m) {at_:Int} {d:B} (h1:0≤at_∧at_<512) (hd:d.length=256):m0R (k0L m at_ d):=
 ⟨u1D at_ d m _ h.ord,fun x hx=>by
  rcases c1D at_ d m _ x hx with ⟨h2,_⟩| ⟨_,rfl⟩
  ·exact h.in_ x h2
  ·exact⟨h1.1,h1.2,hd⟩⟩
theorem m0R.clear {m:List Lf} (h:m0R m) (f u:Int):m0R (h0G m f u):=⟨h.ord.filter _,fun x hx=>h.in_ x (List.mem_filter.1 hx).1⟩
theorem p1Z (at_:Int) (d:B): ∀(m:List Lf) (done:Bool) (j:Int),f0Y j (p0L at_ d done m)=if j=at_ then(if done then a0L 256 else d)else f0Y j m
 | [],done,j=>by
  unfold p0L;cases done with
  |true=>rw[if_pos rfl,j1K];split<;>rfl
  |false=>
   rw[if_neg (by simp),j0O,j1K];by_cases e:j=at_
   ·rw[if_pos e.symm,if_pos e];rfl
   ·rw[if_neg (Ne.symm e),if_neg e]
 |x::r,done,j=>by
  obtain⟨a,y⟩:=x;rw[l1L];have ih:=p1Z at_ d r (done || decide (at_<a)) j;by_cases hit:done=false∧at_<a
  ·rw[if_pos hit,if_neg (show ¬a=at_ by omega)];obtain⟨hd,hlt⟩:=hit;subst hd;simp only[List.singleton_append,List.cons_append,List.nil_append];by_cases e:j=at_
   ·rw[j0O,if_pos e.symm,if_pos e];rfl
   ·rw[if_neg e]at ih;rw[j0O,if_neg (Ne.symm e),if_neg e,j0O,j0O,ih]
  ·rw[if_neg hit];have hdd:(done || decide (at_<a))=done:=by
    cases done with
    |true=>rfl
    |false=>simp only[true_and]at hit;simp[hit]
   rw[hdd]at ih ⊢;by_cases he:a=at_
   ·rw[if_pos he];simp only[List.nil_append];rw[ih,j0O];by_cases hj:j=at_
    ·rw[if_pos hj,if_pos hj]
    ·rw[if_neg hj,if_neg hj,if_neg (by omega)]
   ·rw[if_neg he];simp only[List.nil_append,List.singleton_append];rw[j0O,j0O,ih];by_cases hj:a=j
    ·rw[if_pos hj,if_pos hj,if_neg (by omega)]
    ·rw[if_neg hj,if_neg hj]
theorem h1T (f u:Int): ∀(m:List Lf) (j:Int),f0Y j (h0G m f u)=if f≤j∧j<u then a0L 256 else f0Y j m
 | [],j=>by show f0Y j []=_;rw[j1K];split<;>rfl
 |x::r,j=>by
  obtain⟨a,y⟩:=x;have ih:=h1T f u r j;by_cases hk:a<f∨u≤a
  ·rw[show h0G ((a,y)::r) f u=(a,y)::h0G r f u from List.filter_cons_of_pos (by simpa using hk),j0O,j0O,ih];by_cases hj:a=j
   ·rw[if_pos hj,if_pos hj,if_neg (by omega)]
   ·rw[if_neg hj,if_neg hj]
  ·rw[show h0G ((a,y)::r) f u=h0G r f u from List.filter_cons_of_neg (by simpa using hk),ih,j0O];by_cases hin:f≤j∧j<u
   ·rw[if_pos hin,if_pos hin]
   ·rw[if_neg hin,if_neg hin,if_neg (by omega)]
section
theorem d0G {K V:Type} [DecidableEq K] (k j:K) (v:V) (m:List (K×V)):a0C j ((k,v)::m)=if k=j then some v else a0C j m:=rfl
theorem p1V (a:Int): ∀ {G:Gh},(∀p∈G,(d0O p.2).length≤8)→n0C G a≤8*G.length
 | [],_=>by simp[n0C]
 | (i,o)::G,h=>by
  have h1:=p1V a (G:=G) fun p hp=>h p (List.mem_cons_of_mem _ hp);have h2:=h (i,o) (List.mem_cons_self ..);have h3:(d0O o).count a≤(d0O o).length:=List.count_le_length;rw[o0L,List.length_cons];simp only at h2;omega
theorem o1F {G:Gh} {o:Ob} (h:x0X G o):(d0O o).length≤8:=by
 cases o with
 |part b=>simp[d0O]
 |ext d ats=>have:=h.2.2.1;simp[d0O];omega
 |node l ks s=>have:=h.2.1;simp[d0O];omega
theorem e1K {x:Int} (h0: -9223372036854775808≤x) (h:x<9223372036854775808):j0Z x=x:=by unfold j0Z;omega
theorem k0O (G:Gh) (P:List Int) (a x:Int):f0C G (a::P) x=f0C G P x+if a=x then 1 else 0:=by
 unfold f0C;rw[List.count_cons];by_cases e:a=x<;>simp[e]<;>omega
theorem t1R (G:Gh) (K P:List Int) (x:Int):f0C G (K++P) x=K.count x+f0C G P x:=by unfold f0C;rw[List.count_append];omega
section
variable {s:St} {G:Gh} {P:List Int}
theorem Inv.few (h:Inv s G P) (hP:P.length≤1000000) (a:Int):f0C G P a≤2000000:=by
 have h1:=p1V a (G:=G) fun p hp=>o1F (h.typ p.1 p.2 ((e0D h.nod).2 hp));have h2:P.count a≤P.length:=List.count_le_length;have h3:=h.cnt;have h4:s.g.count 1≤s.g.length:=List.count_le_length;have h5:=h.hi;unfold f0C;omega
theorem b2I {a k:Int} (hG:mok G) (hk:k≠a) {l:Nat} (h:a0W G l k):a0W (b0D a G) l k:=by
 cases l with
 |zero=>exact h.imp id fun⟨d,ats,e⟩=>⟨d,ats,by rw[c0L a k hG,if_neg (Ne.symm hk)];exact e⟩
 |succ l=>exact h.imp id fun⟨d,ats,e⟩=>⟨d,ats,by rw[c0L a k hG,if_neg (Ne.symm hk)];exact e⟩
theorem t2Y {a k:Int} (hG:mok G) (hk:k≠a):d0R (b0D a G) k=d0R G k:=by unfold d0R;rw[c0L a k hG,if_neg (Ne.symm hk)]
theorem x2S {a:Int} (hG:mok G) {o:Ob} (hk:a ∉ d0O o) (h:x0X G o):x0X (b0D a G) o:=by
 cases o with
 |part b=>exact h
 |ext d ats=>
  obtain⟨t1,t2,t3,t4⟩:=h;refine⟨t1,t2,t3,fun k hk4=> ?_⟩;have:=t4 k hk4;unfold v0S at this ⊢;split at this
  ·rename_i hz;rw[if_pos hz];exact this
  ·rename_i hz;rw[if_neg hz];refine⟨this.1,?_⟩;have hne:ats.getD k 0≠a:=fun e=>hk (by show a∈ats;rw[←e];exact g0Z (by omega));rw[c0L a _ hG,if_neg (Ne.symm hne)];exact this.2
 |node l ks sm=>
  obtain⟨t1,t2,t3,t4,t5⟩:=h;refine⟨t1,t2,t3,fun k hm=>b2I hG (fun e=>hk (by subst e;exact hm)) (t4 k hm),?_⟩;rw[t5];congr 1;exact List.map_congr_left fun k hm=>(t2Y hG (fun e=>hk (by subst e;exact hm))).symm
theorem t2Z {a k:Int} {o:Ob} (hn:a0C a G=none) {l:Nat} (h:a0W G l k):a0W ((a,o)::G) l k:=by
 have key: ∀u,a0C k G=some u→a0C k ((a,o)::G)=some u:=fun u e=>by
  rw[d0G,if_neg (fun e2=>by rw[e2]at hn;rw[hn]at e;cases e)];exact e
 cases l with
 |zero=>exact h.imp id fun⟨d,ats,e⟩=>⟨d,ats,key _ e⟩
 |succ l=>exact h.imp id fun⟨d,ats,e⟩=>⟨d,ats,key _ e⟩
theorem k0I {k:Int} {l:Nat} (h:a0W G l k):k=0∨(a0C k G).isSome=true:=by
 cases l with
 |zero=>exact h.imp id fun⟨d,ats,e⟩=>by rw[e];rfl
 |succ l=>exact h.imp id fun⟨d,ats,e⟩=>by rw[e];rfl
theorem u2A {a k:Int} {o:Ob} (h:k≠a):d0R ((a,o)::G) k=d0R G k:=by unfold d0R;rw[d0G,if_neg (Ne.symm h)]
theorem j2I {a:Int} {u:Ob} (hn:a0C a G=none) (ha:a≠0) {o:Ob} (h:x0X G o):x0X ((a,u)::G) o:=by
 have key: ∀k v,a0C k G=some v→a0C k ((a,u)::G)=some v:=fun k v e=>by
  rw[d0G,if_neg (fun e2=>by rw[←e2,hn]at e;cases e)];exact e
 cases o with
 |part b=>exact h
 |ext d ats=>
  obtain⟨t1,t2,t3,t4⟩:=h;refine⟨t1,t2,t3,fun k hk4=> ?_⟩;have:=t4 k hk4;unfold v0S at this ⊢;split at this
  ·rename_i hz;rw[if_pos hz];exact this
  ·rename_i hz;rw[if_neg hz];exact⟨this.1,key _ _ this.2⟩
 |node l ks sm=>
  obtain⟨t1,t2,t3,t4,t5⟩:=h;refine⟨t1,t2,t3,fun k hm=>t2Z hn (t4 k hm),?_⟩;rw[t5];congr 1;refine List.map_congr_left fun k hm=>(u2A fun e=> ?_).symm;rcases k0I (t4 k hm)with h0|h1
  ·exact ha (e▸h0)
  ·rw[e,hn]at h1;cases h1
theorem Inv.more (h:Inv s G P) {a:Int} {o:Ob} (ho:a0C a G=some o) (hnp: ∀b,o≠ .part b) (hd:0<s.depth) (hl:s.log.length<1000000000) (hP:P.length≤1000000):
 ∃s',k0S a s=(.ok (),s')∧Inv s' G (a::P)∧Rel 1 0 s s'∧s'.index=s.index∧s'.keep=s.keep∧s'.vols=s.vols∧s'.next=s.next:=by
 have h0:=h.need_pos ho;have h1:=h.refsOf (h.ne0 ho);have h2:=h.few hP a;have e:k0S a s=(.ok (),{s with log:=bk s.depth s.log (.refs a (a0C a s.refs)),refs:=b0O a ((f0C G P a+1:Nat):Int) s.refs}):=by
  unfold k0S;rw[if_neg (by omega),h1,e1K (by omega) (by omega)];simp[h0I,a0B,back,show ¬1000000000≤s.log.length by omega]
 have r:=b1U a s hd h.u (by rw[e];simp);rw[e]at r;refine⟨_,e,⟨r.ok,h.nod,h.lo,h.hi,fun x hx=> ?_,fun x hx=> ?_,h.zero,h.held,h.disk,h.typ,h.cnt,fun x b hx=> ?_⟩,r,rfl,rfl,rfl,rfl⟩
 ·show a0C x (b0O a _ s.refs)=_;rw[f0N,k0O];by_cases e:a=x
  ·subst e;simp
  ·rw[if_neg e,if_neg e];exact h.refs x hx
 ·rw[k0O];by_cases e:a=x
  ·subst e;simp[ho]
  ·rw[if_neg e];exact h.live x hx
 ·rw[k0O,if_neg (fun e=>by subst e;rw[ho]at hx;exact hnp b (Option.some.inj hx))];exact h.lone x b hx
theorem Inv.less2 {a:Int} (h:Inv s G (a::P)) {o:Ob} (ho:a0C a G=some o) (hd:0<s.depth) (hl:s.log.length<1000000000) (hP:P.length<1000000) (hn:f0C G P a≠0):
 ∃s',e0G a s=(.ok false,s')∧Inv s' G P∧Rel 4 0 s s'∧s'.index=s.index∧s'.keep=s.keep∧s'.vols=s.vols∧s'.next=s.next:=by
 have h1:=h.refsOf (h.ne0 ho);have h2:=h.few (by simp;omega) a;have h3:=h.range ho;have h4:=k0O G P a a;simp at h4;have e:e0G a s=(.ok false,{s with log:=bk s.depth s.log (.refs a (a0C a s.refs)),refs:=b0O a (f0C G P a:Int) s.refs}):=by
  unfold e0G;rw[if_neg (by simp[inR];omega),if_neg (by omega),if_neg (by omega),h1,h4,show((f0C G P a+1:Nat):Int)-1=f0C G P a by omega,e1K (by omega) (by omega)];simp[h0I,a0B,back,show ¬1000000000≤s.log.length by omega,ret]
 have r:=x0W a s hd h.u (by rw[e];simp);rw[e]at r;refine⟨_,e,⟨r.ok,h.nod,h.lo,h.hi,fun x hx=> ?_,fun x hx=> ?_,h.zero,h.held,h.disk,h.typ,h.cnt,fun x b hx=> ?_⟩,r,rfl,rfl,rfl,rfl⟩
 ·show a0C x (b0O a _ s.refs)=_;rw[f0N];by_cases e:a=x
  ·subst e;simp[hn]
  ·rw[if_neg e];have:=h.refs x hx;rw[k0O,if_neg e]at this;exact this
 ·by_cases e:a=x
  ·subst e;simp[ho,hn]
  ·have:=h.live x hx;rw[k0O,if_neg e]at this;exact this
 ·have:=h.lone x b hx;rw[k0O]at this;by_cases e:a=x
  ·subst e;rw[if_pos rfl]at this;omega
  ·rw[if_neg e]at this;exact this
theorem Inv.less1 {a:Int} (h:Inv s G (a::P)) {o:Ob} (ho:a0C a G=some o) (hd:0<s.depth) (hl:s.log.length+4<1000000000) (hg:s.gone.length+1<1000000000) (hn:f0C G P a=0):
 ∃s',e0G a s=(.ok true,s')∧Inv s' (b0D a G) (d0O o++P)∧Rel 4 0 s s'∧s'.index=s.index∧s'.keep=s.keep∧s'.vols=s.vols∧s'.next=s.next:=by
 have h1:=h.refsOf (h.ne0 ho);have h3:=h.range ho;have h4:=k0O G P a a;simp only[if_true,hn]at h4;have hB:=(h.held a).2 (by rw[ho];rfl);have bl: ∀(log:List c0U) st,(bk s.depth log st).length=log.length+1:=fun log st=>by simp[bk,hd]
 have e: ∃yg gn lg,e0G a s=(.ok true,{s with refs:=b0D a s.refs,g:=mvL s.fr s.g a 1 2,young:=yg,gone:=gn,log:=lg}):=by
  unfold e0G;rw[if_neg (by simp[inR];omega),if_neg (by omega),if_pos (by omega)];have e1:l0B a s=(.ok (),{s with log:=bk s.depth s.log (.refs a (a0C a s.refs)),refs:=b0D a s.refs}):=by
   simp[l0B,a0B,back,show ¬1000000000≤s.log.length by omega]
  rw[a0A e1];have e2:=u0J (s:= {s with log:=bk s.depth s.log (.refs a (a0C a s.refs)),refs:=b0D a s.refs,g:=mvL s.fr s.g a 1 2}) (.back a) (by simp only[bl];omega);rw[a0A (m:=fun s=>back (.back a) {s with g:=mvL s.fr s.g a 1 2}) e2];by_cases hy:0<h0Y s a
  ·have hy':0<h0Y {s with log:=bk s.depth (bk s.depth s.log (.refs a (a0C a s.refs))) (.back a),refs:=b0D a s.refs,g:=mvL s.fr s.g a 1 2} a:=hy;refine⟨b0D a s.young,s.gone++ [a],bk s.depth (bk s.depth (bk s.depth (bk s.depth s.log (.refs a (a0C a s.refs))) (.back a)) (.young a (a0C a s.young))) (.gone s.gone),?_⟩;have e3:(fun s=>if 0<h0Y s a then a0B (f0M a) (fun _ s=>h0X (s.gone++ [a]) s) s else ret () s) {s with log:=bk s.depth (bk s.depth s.log (.refs a (a0C a s.refs))) (.back a),refs:=b0D a s.refs,g:=mvL s.fr s.g a 1 2} =
    (.ok (),{s with refs:=b0D a s.refs,g:=mvL s.fr s.g a 1 2,young:=b0D a s.young,gone:=s.gone++ [a],log:=bk s.depth (bk s.depth (bk s.depth (bk s.depth s.log (.refs a (a0C a s.refs))) (.back a)) (.young a (a0C a s.young))) (.gone s.gone)}):=by
    simp only[if_pos hy'];simp[f0M,h0X,a0B,back,bl,show ¬1000000000≤s.log.length+1+1 by omega,show ¬1000000000≤s.log.length+1+1+1 by omega,show ¬1000000000≤s.gone.length+1 by omega]
   rw[a0A e3];rfl
  ·have hy': ¬0<h0Y {s with log:=bk s.depth (bk s.depth s.log (.refs a (a0C a s.refs))) (.back a),refs:=b0D a s.refs,g:=mvL s.fr s.g a 1 2} a:=hy;refine⟨s.young,s.gone,bk s.depth (bk s.depth s.log (.refs a (a0C a s.refs))) (.back a),?_⟩;have e3:(fun s=>if 0<h0Y s a then a0B (f0M a) (fun _ s=>h0X (s.gone++ [a]) s) s else ret () s) {s with log:=bk s.depth (bk s.depth s.log (.refs a (a0C a s.refs))) (.back a),refs:=b0D a s.refs,g:=mvL s.fr s.g a 1 2} =
    (.ok (),{s with log:=bk s.depth (bk s.depth s.log (.refs a (a0C a s.refs))) (.back a),refs:=b0D a s.refs,g:=mvL s.fr s.g a 1 2}):=by
    simp only[if_neg hy'];rfl
   rw[a0A e3];rfl
 obtain⟨yg,gn,lg,e⟩:=e;have r:=x0W a s hd h.u (by rw[e];simp);rw[e]at r;have hneed: ∀x,f0C (b0D a G) (d0O o++P) x=f0C G P x:=fun x=>by
  rw[t1R];unfold f0C;rw[b1W h.nod ho x];omega
 have hnk: ∀b u,a0C b G=some u→a ∉ d0O u:=fun b u hu hm=>t0L hu hm (by unfold f0C at hn;omega);refine⟨_,e,⟨r.ok,k0F a h.nod,h.lo,by show s.fr+(mvL _ _ _ _ _).length≤_;rw[l0Q];exact h.hi,fun x hx=> ?_,fun x hx=> ?_,?_,fun x=> ?_,fun x u hu=> ?_,fun x u hu=> ?_,?_,fun x b hx=> ?_⟩,r,rfl,rfl,rfl,rfl⟩
 ·show a0C x (b0D a s.refs)=_;rw[c0L a x h.u.m.refs,hneed];by_cases e:a=x
  ·subst e;simp[hn]
  ·rw[if_neg e];have:=h.refs x hx;rw[k0O,if_neg e]at this;exact this
 ·rw[hneed,c0L a x h.nod];by_cases e:a=x
  ·subst e;simp[hn]
  ·rw[if_neg e];have:=h.live x hx;rw[k0O,if_neg e]at this;exact this
 ·rw[c0L a 0 h.nod,if_neg (h.ne0 ho)];exact h.zero
 ·show isB s.fr (mvL s.fr s.g a 1 2) x 1=true↔_;rw[l0F hB,c0L a x h.nod];by_cases e:x=a
  ·simp[e]
  ·rw[if_neg e,if_neg (Ne.symm e)];exact h.held x
 ·rw[c0L a x h.nod]at hu;split at hu
  ·cases hu
  ·exact h.disk x u hu
 ·rw[c0L a x h.nod]at hu;split at hu
  ·cases hu
  ·exact x2S h.nod (hnk x u hu) (h.typ x u hu)
 ·show(b0D a G).length=(mvL s.fr s.g a 1 2).count 1;have:=t1P ho;have h5:=q0S (w:=2) (x:=1) hB;have:=h.cnt;simp at h5;omega
 ·rw[hneed];rw[c0L a x h.nod]at hx;split at hx
  ·cases hx
  ·rename_i e;have:=h.lone x b hx;rw[k0O,if_neg e]at this;exact this
theorem Inv.put {o:Ob} (h:Inv s G (d0O o++P)) (hok:x0X G o) (hl64:(l0J o).length=64) (hd:0<s.depth) (hl:s.log.length+4<1000000000) (hf:s.keep<(a0Y s:Int)):
 ∃a s',e0S (l0J o) s=(.ok a,s')∧Inv s' ((a,o)::G) (a::P)∧Rel 3 1 s s'∧k0G s a∧s'.index=s.index∧s'.keep=s.keep∧s'.vols=s.vols∧s'.next=s.next:=by
 have hk:=h.u.keep;obtain⟨ha0,htk⟩:=a2Y (fr:=s.fr) (g:=s.g) (by unfold a0Y at hf;omega);have bl: ∀(log:List c0U) st,(bk s.depth log st).length=log.length+1:=fun log st=>by simp[bk,hd]
 have hr:=n0O.1 ha0;have h1:=h.u.size;have h2:=h.lo;have e: ∃yg lg,e0S (l0J o) s=(.ok (b0R s.fr s.g),{s with g:=h0M s.g,refs:=b0O (b0R s.fr s.g) 1 s.refs,young:=yg,log:=lg,d:= {s.d with l:=s.d.l.set (b0R s.fr s.g).toNat ((s.d.l.getD (b0R s.fr s.g).toNat ([],[])).1,l0J o++a0L (64- (l0J o).length))}}):=by
  refine⟨b0O (b0R s.fr s.g) 1 s.young,bk s.depth (bk s.depth (bk s.depth s.log (.give (b0R s.fr s.g))) (.refs (b0R s.fr s.g) (a0C (b0R s.fr s.g) s.refs))) (.young (b0R s.fr s.g) (a0C (b0R s.fr s.g) s.young)),?_⟩;unfold e0S;rw[if_neg (by omega)];have e1:=u0J (s:= {s with g:=h0M s.g}) (.give (b0R s.fr s.g)) (by simp only;omega);simp only;rw[a0A (m:=fun s'=>back (.give (b0R s.fr s.g)) {s' with g:=h0M s'.g}) e1];generalize b0R s.fr s.g=a at*
  have e2:h0I a 1 {s with g:=h0M s.g,log:=bk s.depth s.log (.give a)} =(.ok (),{s with g:=h0M s.g,refs:=b0O a 1 s.refs,log:=bk s.depth (bk s.depth s.log (.give a)) (.refs a (a0C a s.refs))}):=by
   simp[h0I,a0B,back,bl,show ¬1000000000≤s.log.length+1 by omega]
  rw[a0A e2];have e3:m0E a 1 {s with g:=h0M s.g,refs:=b0O a 1 s.refs,log:=bk s.depth (bk s.depth s.log (.give a)) (.refs a (a0C a s.refs))} =(.ok (),{s with g:=h0M s.g,refs:=b0O a 1 s.refs,young:=b0O a 1 s.young,log:=bk s.depth (bk s.depth (bk s.depth s.log (.give a)) (.refs a (a0C a s.refs))) (.young a (a0C a s.young))}):=by
   simp[m0E,a0B,back,bl,show ¬1000000000≤s.log.length+1+1 by omega]
  rw[a0A e3];have e4:=j2F (b:=l0J o) h.u.run (a:=a) (by omega) (by omega);unfold a0B t0G;simp only[e4];rfl
 obtain⟨yg,lg,e⟩:=e;have r:=a1P (l0J o) s hd h.u (by rw[e];simp);rw[e]at r;rw[htk]at e r;have hB:=ha0;have hne:b0R s.fr s.g≠0:=by omega
 have hnn:a0C (b0R s.fr s.g) G=none:=by
  cases hm:a0C (b0R s.fr s.g) G with
  |none=>rfl
  |some u=>exact absurd (a1N ((h.held _).2 (by rw[hm];rfl)) ha0) (by decide)
 generalize b0R s.fr s.g=a at*
 have hz:f0C G (d0O o++P) a=0:=by
  by_cases e:f0C G (d0O o++P) a=0
  ·exact e
  ·have:=(h.live a hne).1 e;rw[hnn]at this;cases this
 have hneed: ∀x,f0C ((a,o)::G) (a::P) x=f0C G (d0O o++P) x+if a=x then 1 else 0:=fun x=>by
  rw[k0O,t1R];unfold f0C;rw[o0L];omega
 refine⟨a,_,e,⟨r.ok,?_,h.lo,by show s.fr+(mvL _ _ _ _ _).length≤_;rw[l0Q];exact h.hi,fun x hx=> ?_,fun x hx=> ?_,?_,fun x=> ?_,fun x u hu=> ?_,fun x u hu=> ?_,?_,fun x b hx=> ?_⟩,r,ha0,rfl,rfl,rfl,rfl⟩
 ·show((a,o)::G).map (·.1) |>.Nodup;rw[List.map_cons,List.nodup_cons];refine⟨fun hm=> ?_,h.nod⟩;obtain⟨⟨b,u⟩,hb,rfl⟩:=List.mem_map.1 hm;rw[(e0D h.nod).2 hb]at hnn;cases hnn
 ·show a0C x (b0O a 1 s.refs)=_;rw[f0N,hneed];by_cases e:a=x
  ·subst e;simp[hz]
  ·rw[if_neg e,if_neg e];exact h.refs x hx
 ·rw[hneed,d0G];by_cases e:a=x
  ·subst e;simp
  ·rw[if_neg e,if_neg e];exact h.live x hx
 ·rw[d0G,if_neg hne];exact h.zero
 ·show isB s.fr (mvL s.fr s.g a 0 1) x 1=true↔_;rw[l0F hB,d0G];by_cases e:x=a
  ·simp[e]
  ·rw[if_neg e,if_neg (Ne.symm e)];exact h.held x
 ·rw[d0G]at hu;show n0A {s.d with l:=_} x.toNat=_;unfold n0A;simp only[List.getD_eq_getElem?_getD];by_cases e:a=x
  ·subst e;simp only[if_true,Option.some.injEq]at hu;subst hu;rw[List.getElem?_set_self (by omega)];simp[hl64,a0L]
  ·rw[if_neg e]at hu;have:=h.range hu;rw[List.getElem?_set_ne (by omega)];have:=h.disk x u hu;unfold n0A at this;simpa only[List.getD_eq_getElem?_getD] using this
 ·rw[d0G]at hu;by_cases e:a=x
  ·subst e;simp only[if_true,Option.some.injEq]at hu;subst hu;exact j2I hnn hne hok
  ·rw[if_neg e]at hu;exact j2I hnn hne (h.typ x u hu)
 ·show G.length+1=(mvL s.fr s.g a 0 1).count 1;have h5:=q0S (w:=1) (x:=1) hB;have:=h.cnt;simp at h5;omega
 ·rw[d0G]at hx;rw[hneed];by_cases e:a=x
  ·subst e;rw[hz];simp
  ·rw[if_neg e]at hx ⊢;rw[Nat.add_zero];exact h.lone x b hx
end
end
end Go.Sb

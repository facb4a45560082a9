/- Part of the proof; no statement of its own. -/
import Derived.Test.YtpinhnikemamjaaGreatDoorB14
import Derived.Test.YtpinhnikemamjaaGreatDoorB08
import Derived.Test.YtpinhnikemamjaaGreatDoorB15
import Derived.Lib.LaidTab
import Derived.Test.YtpinhnikemamjaaGreatDoorRows
import Derived.LaidLaws
import Derived.MakeChecks
import Derived.HandedShaped
import Derived.LaidMore
import Derived.Lay
import Derived.Stop.Joined
import Derived.ProofKit
import Derived.Test.YtpinhnikemamjaaGreatDoorProg
import Derived.KernelRfl
import Derived.Test.YtpinhnikemamjaaGreatDoorB07
set_option linter.all false
set_option maxRecDepth 4000
set_option maxHeartbeats 4000000
namespace Go.Sb
section
inductive Ob where
 |part (b:B)
 |ext (data:B) (ats:List Int)
 |node (l:Nat) (kids:List Int) (sum:B)
abbrev Gh:=List (Int×Ob)
def g0Y:Ob→List Int
 | .part _=> []
 | .ext _ ats=>ats
 | .node _ kids _=>kids
def p0W (G:Gh) (a:Int):Nat:=(G.map fun p=>(g0Y p.2).count a).sum
def f0Y (G:Gh) (P:List Int) (a:Int):Nat:=P.count a+p0W G a
def f0I (G:Gh) (a:Int):B:=match a0H a G with|some (.ext d _)=>Sha.sum d|some (.node _ _ s)=>s|_=>a0T 32
def n0X (data:B) (ats:List Int):Hd:= {at_:=ats,sums:=(List.range 4).map fun k=>if b0B (part data k)then 0 else f0T (part data k),sum:=Sha.sum data}
def l0D:Ob→B
 | .part b=>b
 | .ext d ats=>h0B (n0X d ats)
 | .node l kids s=>i0R l {kids:=kids,sum:=s}
def b0K (G:Gh):Nat→Int→Prop
 |0,a=>a=0∨ ∃d ats,a0H a G=some (.ext d ats)
 |l+1,a=>a=0∨ ∃ks s,a0H a G=some (.node l ks s)
def w0J (G:Gh) (d:B) (ats:List Int) (k:Nat):Prop:=if b0B (part d k)=true then ats.getD k 0=0 else ats.getD k 0≠0∧a0H (ats.getD k 0) G=some (.part (part d k))
def w0K (G:Gh):Ob→Prop
 | .part b=>b.length=64
 | .ext d ats=>d.length=256∧b0B d=false∧ats.length=4∧ ∀k,k<4→w0J G d ats k
 | .node l kids s=>l<3∧kids.length=8∧kids≠f0B∧(∀k∈kids,b0K G l k)∧s=f0X l (kids.map (f0I G))
structure Inv (s:St) (G:Gh) (P:List Int):Prop where
 u:UOK s
 nod:mok G
 lo:1≤s.fr
 hi:s.fr+s.g.length≤65535
 refs: ∀a,a≠0→a0H a s.refs=if f0Y G P a=0 then none else some (f0Y G P a:Int)
 live: ∀a,a≠0→(f0Y G P a≠0↔(a0H a G).isSome=true)
 zero:a0H 0 G=none
 held: ∀a,isB s.fr s.g a 1=true↔(a0H a G).isSome=true
 disk: ∀a o,a0H a G=some o→m0H s.d a.toNat=l0D o
 typ: ∀a o,a0H a G=some o→w0K G o
 cnt:G.length=s.g.count 1
def Idx (s:St) (G:Gh):Prop:= ∀k a,a0H k s.index=some a↔ ∃d ats,a0H a G=some (.ext d ats)∧k=key s.bits (Sha.sum d)
theorem p0D (a:Int) (o:Ob) (G:Gh) (x:Int):p0W ((a,o)::G) x=(g0Y o).count x+p0W G x:=by simp[p0W]
theorem i1O {a:Int} {o:Ob} : ∀ {G:Gh},mok G→a0H a G=some o→ ∀x,p0W G x=(g0Y o).count x+p0W (b0I a G) x
 | [],_,h,_=>by simp[a0H]at h
 | (i,u)::G,hm,h,x=>by
  have h':i ∉ G.map (·.1)∧mok G:=by simpa [mok] using hm
  by_cases e:i=a
  ·subst e
   simp only[a0H,if_pos,Option.some.injEq]at h
   subst h
   simp[b0I,p0D]
  ·simp only[a0H,if_neg e]at h
   simp only[b0I,if_neg e,p0D,i1O h'.2 h x];omega
theorem u0T {a:Int} {o:Ob} {x:Int} : ∀ {G:Gh},a0H a G=some o→x∈g0Y o→p0W G x≠0
 | [],h,_=>by simp[a0H]at h
 | (i,u)::G,h,hx=>by
  rw[p0D]
  by_cases e:i=a
  ·subst e
   simp only[a0H,if_pos,Option.some.injEq]at h
   subst h
   have:=List.count_pos_iff.2 hx;omega
  ·simp only[a0H,if_neg e]at h
   have:=u0T h hx;omega
theorem r1B {K V:Type} [DecidableEq K] {k:K} {v:V} : ∀ {m:List (K×V)},a0H k m=some v→(b0I k m).length+1=m.length
 | [],h=>by simp[a0H]at h
 | (i,u)::m,h=>by
  by_cases e:i=k
  ·subst e;simp[b0I]
  ·simp only[a0H,if_neg e]at h
   simp[b0I,e,r1B h]
theorem z0W {l:B} {n:Nat} (h:b0B l=true) (hn:l.length=n):l=a0T n:=by
 subst hn
 unfold b0B at h
 rw[List.all_eq_true]at h
 exact List.eq_replicate_iff.2 ⟨rfl,fun x hx=>by simpa using h x hx⟩
theorem i0U (n:Nat):(a0T n).length=n:=by simp[a0T]
theorem x1G (v:List Sha.W) (k w:Sha.W):(Sha.rnd v k w).length=8:=rfl
theorem r1C (w v:List Sha.W) (h:v.length=8): ∀n,(Sha.j0F w v n).length=8
 |0=>h
 |_+1=>rfl
theorem x1H {h:List Sha.W} (hh:h.length=8) (b:B):(Sha.mix h b).length=8:=by
 unfold Sha.mix;rw[List.length_zipWith,r1C _ _ hh,hh];rfl
theorem m1V: ∀(n:Nat) {h:List Sha.W} (_:h.length=8) (b:B),(Sha.f0E n h b).length=8
 |0,_,hh,_=>hh
 |n+1,_,hh,b=>m1V n (x1H hh _) _
theorem q0F (b:B):(Sha.sum b).length=32:=by
 unfold Sha.sum
 rw[h0K (k:=4) fun _=>rfl,m1V _ rfl]
theorem u0U (l:Nat) (ss:List B):(f0X l ss).length=32:=by
 unfold f0X;split
 ·exact i0U 32
 ·exact q0F _
theorem f1W {d:B} {k:Nat} (hd:d.length=256) (hk:k<4):(part d k).length=64:=by unfold part;simp;omega
section
variable {s:St} {G:Gh} {P:List Int}
theorem Inv.ne0 (h:Inv s G P) {a:Int} {o:Ob} (ho:a0H a G=some o):a≠0:=by
 rintro rfl;rw[h.zero]at ho;cases ho
theorem Inv.range (h:Inv s G P) {a:Int} {o:Ob} (ho:a0H a G=some o):0<a∧a<65536∧(s.fr:Int)≤a∧a<s.d.l.length:=by
 have h1:=p0C.1 ((h.held a).2 (by rw[ho];rfl))
 have h2:=h.u.size;have h3:=h.hi;have h4:=h.lo
 omega
theorem Inv.refsOf (h:Inv s G P) {a:Int} (ha:a≠0):d0U s a=f0Y G P a:=by
 unfold Go.Sb.d0U;rw[h.refs a ha]
 by_cases e:f0Y G P a=0
 ·simp[e]
 ·simp[e]
theorem Inv.need_pos (h:Inv s G P) {a:Int} {o:Ob} (ho:a0H a G=some o):f0Y G P a≠0:=(h.live a (h.ne0 ho)).2 (by rw[ho];rfl)
theorem Inv.get (h:Inv s G P) {a:Int} {o:Ob} (ho:a0H a G=some o):i0E a s=(.ok (l0D o),s):=by
 have h1:=h.refsOf (h.ne0 ho)
 have h2:=h.need_pos ho
 have h3:=h.range ho
 unfold i0E
 rw[if_neg (by omega)]
 unfold m0X
 rw[h.u.run.2]
 simp only[Bool.false_eq_true,if_false]
 rw[if_neg (by omega)]
 have:=h.disk a o ho
 unfold m0H at this
 rw[this]
theorem Inv.kid_range (h:Inv s G P) {l:Nat} {a:Int} (ha:b0K G l a):0≤a∧a<65536:=by
 cases l with
 |zero=>
  rcases ha with rfl| ⟨d,ats,ho⟩
  ·omega
  ·have:=h.range ho;omega
 |succ l=>
  rcases ha with rfl| ⟨d,ats,ho⟩
  ·omega
  ·have:=h.range ho;omega
theorem Inv.load (h:Inv s G P) {a:Int} {l:Nat} {kids:List Int} {sum:B} (ho:a0H a G=some (.node l kids sum)):load a l s=(.ok {kids:=kids,sum:=sum},s):=by
 obtain⟨t1,t2,t3,t4,t5⟩:=h.typ a _ ho
 have hb:=x1E (x:= {kids:=kids,sum:=sum}) (l:=l) (by omega) ⟨t2,fun x hx=>h.kid_range (t4 x hx),by rw[t5];exact u0U _ _⟩
 unfold Go.Sb.load
 rw[if_neg (h.ne0 ho),a0A (h.get ho)]
 show(f0P l (i0R l _),s)=_
 rw[hb.1]
theorem t2D (l:Nat) (s:St):load 0 l s=(.ok {kids:=f0B,sum:=a0T 32},s):=by unfold load;rw[if_pos rfl];rfl
theorem r2M (h:Inv s G P) {a:Int} {d:B} {ats:List Int} (ho:a0H a G=some (.ext d ats)):HdOK (n0X d ats):=by
 obtain⟨t1,t2,t3,t4⟩:=h.typ a _ ho
 refine⟨t3,fun x hx=> ?_,by simp[n0X],fun c hc=> ?_,q0F _⟩
 ·have hx':x∈ats:=hx
  obtain⟨k,hk,rfl⟩:=List.getElem_of_mem hx'
  have hk4:k<4:=by omega
  have e:ats.getD k 0=ats[k]:=by rw[List.getD_eq_getElem?_getD,List.getElem?_eq_getElem hk];rfl
  have:=t4 k hk4
  unfold w0J at this
  rw[e]at this
  show 0≤ats[k]∧ats[k]<65536
  split at this
  ·omega
  ·have:=h.range this.2;omega
 ·obtain⟨k,_,rfl⟩:=List.mem_map.1 hc
  split
  ·decide
  ·exact Nat.lt_of_lt_of_eq (d1T _) (by decide)
theorem Inv.xhead (h:Inv s G P) {a:Int} {d:B} {ats:List Int} (ho:a0H a G=some (.ext d ats)):h0M a s=(.ok (n0X d ats),s):=by
 unfold Go.Sb.h0M
 rw[a0A (h.get ho)]
 show(h0D (h0B _),s)=_
 rw[(x1D (r2M h ho)).1]
theorem Inv.xparts (h:Inv s G P) {a:Int} {d:B} {ats:List Int} (ho:a0H a G=some (.ext d ats)): ∀n,n≤4→f0N (n0X d ats) n s=(.ok (d.drop (64*(4-n))),s)
 |0,_=>by
  have:=(h.typ a _ ho).1
  unfold Go.Sb.f0N
  rw[List.drop_eq_nil_of_le (by omega)];rfl
 |n+1,hn=>by
  obtain⟨t1,t2,t3,t4⟩:=h.typ a _ ho
  have ih:=h.xparts ho n (by omega)
  have ht:=t4 (4- (n+1)) (by omega)
  have e0:part d (4- (n+1))++d.drop (64*(4-n))=d.drop (64*(4- (n+1))):=by
   rw[show 64*(4-n)=64*(4- (n+1))+64 by omega,←List.drop_drop]
   exact List.take_append_drop _ _
  have hs:(n0X d ats).sums.getD (4- (n+1)) 0=if b0B (part d (4- (n+1)))then 0 else f0T (part d (4- (n+1))):=by
   have:n=0∨n=1∨n=2∨n=3:=by omega
   rcases this with rfl|rfl|rfl|rfl<;>rfl
  unfold Go.Sb.f0N
  unfold w0J at ht
  have e1:(if 0<(n0X d ats).at_.getD (4- (n+1)) 0 then a0B (i0E ((n0X d ats).at_.getD (4- (n+1)) 0)) fun s=>if f0T s≠(n0X d ats).sums.getD (4- (n+1)) 0 then n0F 11 else ret s else ret (a0T 64):M B) s=(.ok (part d (4- (n+1))),s):=by
   show(if 0<ats.getD (4- (n+1)) 0 then _ else _:M B) s=_
   by_cases hz:b0B (part d (4- (n+1)))=true
   ·rw[if_pos hz]at ht
    rw[ht,if_neg (by omega),z0W hz (f1W t1 (by omega))];rfl
   ·rw[if_neg hz]at ht
    have:=h.range ht.2
    rw[if_pos (by omega)]
    show a0B (i0E (ats.getD (4- (n+1)) 0)) _ s=_
    rw[a0A (h.get ht.2),hs,if_neg hz]
    show(if f0T (part d (4- (n+1)))≠f0T (part d (4- (n+1)))then n0F 11 else ret (part d (4- (n+1))):M B) s=_
    rw[if_neg (by simp)];rfl
  simp only
  rw[a0A e1,a0A ih,←e0];rfl
theorem Inv.xget (h:Inv s G P) {a:Int} {d:B} {ats:List Int} (ho:a0H a G=some (.ext d ats)):k0H a s=(.ok d,s):=by
 unfold Go.Sb.k0H
 rw[if_neg (h.ne0 ho),a0A (h.xhead ho),h.xparts ho 4 (by omega)];rfl
theorem t2E (s:St):k0H 0 s=(.ok (a0T 256),s):=by unfold k0H;rw[if_pos rfl];rfl
def e0B (G:Gh) (a:Int):B:=match a0H a G with|some (.ext d _)=>d|_=>a0T 256
theorem Inv.leaf (h:Inv s G P) {a:Int} (ha:b0K G 0 a):Go.Sb.k0H a s=(.ok (e0B G a),s):=by
 rcases ha with rfl| ⟨d,ats,ho⟩
 ·rw[t2E];unfold e0B;rw[h.zero]
 ·rw[h.xget ho];unfold e0B;rw[ho]
theorem Inv.xsum (h:Inv s G P) {a:Int} (ha:b0K G 0 a):q0R a s=(.ok (f0I G a),s):=by
 unfold Go.Sb.q0R
 rcases ha with rfl| ⟨d,ats,ho⟩
 ·rw[if_pos rfl];unfold f0I;rw[h.zero];rfl
 ·rw[if_neg (h.ne0 ho),a0A (h.xhead ho)];unfold f0I;rw[ho];rfl
def c0B (G:Gh) (a:Int):List Int:=match a0H a G with|some (.node _ ks _)=>ks|_=>f0B
theorem Inv.loadK (h:Inv s G P) {a:Int} {l:Nat} (ha:b0K G (l+1) a):Go.Sb.load a l s=(.ok {kids:=c0B G a,sum:=f0I G a},s):=by
 rcases ha with rfl| ⟨ks,sm,ho⟩
 ·rw[t2D];unfold c0B f0I;rw[h.zero]
 ·rw[h.load ho];unfold c0B f0I;rw[ho]
theorem e2Z (G:Gh) (l:Nat): ∀k∈f0B,b0K G l k:=by
 intro k hk
 have:k=0:=by simpa [f0B] using hk
 cases l<;>exact .inl this
theorem Inv.kids (h:Inv s G P) {a:Int} {l:Nat} (ha:b0K G (l+1) a):(c0B G a).length=8∧ ∀k∈c0B G a,b0K G l k:=by
 rcases ha with rfl| ⟨ks,sm,ho⟩
 ·unfold c0B;rw[h.zero];exact⟨rfl,e2Z G l⟩
 ·unfold c0B;rw[ho]
  obtain⟨t1,t2,t3,t4,t5⟩:=h.typ a _ ho
  exact⟨t2,t4⟩
theorem g0I {l:List Int} {i:Nat} (h:i<l.length):l.getD i 0∈l:=by
 rw[List.getD_eq_getElem?_getD,List.getElem?_eq_getElem h];exact List.getElem_mem h
def c0Z (G:Gh):Nat→Int→Nat→Int
 |0,root,i=>(c0B G root).getD (b0X 0 i).1 0
 |l+1,root,i=>c0Z G l ((c0B G root).getD (b0X (l+1) i).1 0) (b0X (l+1) i).2
theorem p0E (l i:Nat):(b0X l i).1<8:=by unfold b0X;exact Nat.mod_lt _ (by decide)
theorem Inv.leafKid (h:Inv s G P): ∀(l:Nat) {root:Int} (_:b0K G (l+1) root) (i:Nat),b0K G 0 (c0Z G l root i)
 |0,root,hr,i=>(h.kids hr).2 _ (g0I (by rw[(h.kids hr).1];exact p0E 0 i))
 |l+1,root,hr,i=>h.leafKid l ((h.kids hr).2 _ (g0I (by rw[(h.kids hr).1];exact p0E (l+1) i))) _
theorem Inv.rget (h:Inv s G P): ∀(l:Nat) {root:Int} (_:b0K G (l+1) root) (i:Nat),k0I l root i s=(.ok (c0Z G l root i),s)
 |0,root,hr,i=>by unfold Go.Sb.k0I;rw[a0A (h.loadK hr)];rfl
 |l+1,root,hr,i=>by
  unfold Go.Sb.k0I;rw[a0A (h.loadK hr)]
  exact h.rget l ((h.kids hr).2 _ (g0I (by rw[(h.kids hr).1];exact p0E (l+1) i))) _
theorem Inv.rsums (h:Inv s G P) (l:Nat): ∀ks:List Int,(∀k∈ks,b0K G l k)→g0P l ks s=(.ok (ks.map (f0I G)),s)
 | [],_=>rfl
 |k::ks,hk=>by
  have ih:=h.rsums l ks fun x hx=>hk x (List.mem_cons_of_mem _ hx)
  have h0:=hk k (List.mem_cons_self ..)
  unfold Go.Sb.g0P
  cases l with
  |zero=>rw[a0A (h.xsum h0),a0A ih];rfl
  |succ l=>
   have e:(a0B (Go.Sb.load k l) fun x=>ret x.sum:M B) s=(.ok (f0I G k),s):=by rw[a0A (h.loadK h0)];rfl
   simp only
   rw[a0A e,a0A ih];rfl
end
end
end Go.Sb
namespace Go.Proofs.Q
open Go.Sl Go.Sb
section
def h0L (W : World) : Prop := Lib.TabIs Tryz.prog W "stereobate/sha.rounds" .u32 (Sha.e0Q.map fun x => (x.toNat : Int))
theorem rdG : Tryz.prog.globalNamed "stereobate/sha.rounds" = some 1 := by kernel_rfl
theorem r2N {W : World} (h : h0L W) : W.var? Tryz.prog "stereobate/sha.rounds" = some (wsL Sha.e0Q).toArray := by
 have h' : W.var? Tryz.prog "stereobate/sha.rounds" = _ := h
 rw[h',List.map_map];rfl
abbrev shP (b:Nat) (h:List (BitVec 32)) (wait:Value) (n:Nat):a0E:=pts b (.cells (wsL h++ [wait,.int .u64 n]).toArray 308 (0,0))
theorem m1W (w v:List Sha.W) (h:v.length=8) (i:Nat):(Sha.j0F w v i).length=8:=by cases i with
 |zero=>exact h
 |succ i=>rfl
theorem i0V {l:List Sha.W} {j k:Nat} (hj:j<l.length) (hk:k=j):nth (wsL l) k=some (w32 (Sha.at_ l j)):=by
 have:=y0Q (rest:= []) hj hk
 rwa [List.append_nil]at this
def s0I (h V:List Sha.W) (j:Nat):List Sha.W:=(List.zipWith (· + ·) h V).take j++h.drop j
theorem c1H {h V:List Sha.W} (h8:h.length=8) (v8:V.length=8) {j:Nat} (hj:j≤8):(s0I h V j).length=8:=by unfold s0I;simp[h8,v8];omega
theorem k2G {h V:List Sha.W} (h8:h.length=8) (v8:V.length=8) {j:Nat} (hj:j<8):Sha.at_ (s0I h V j) j=Sha.at_ h j:=by
 unfold s0I Sha.at_
 rw[List.getD_eq_getElem?_getD,List.getD_eq_getElem?_getD,List.getElem?_append_right (by simp[h8,v8];omega)]
 simp[h8,v8,show min j 8=j by omega]
theorem f2A {h V:List Sha.W} {rest:List Value} (h8:h.length=8) (v8:V.length=8) {j k:Nat} (hj:j<8) (hk:k=j):(wsL (s0I h V j)++rest).set k (w32 (Sha.at_ h j+Sha.at_ V j))=wsL (s0I h V (j+1))++rest:=by
 subst hk
 rw[List.set_append_left _ _ (by simp[c1H h8 v8 (Nat.le_of_lt hj),hj]),←List.map_set]
 congr 2
 unfold s0I
 have hl:((List.zipWith (· + ·) h V).take k).length=k:=by simp[h8,v8];omega
 have hz:(List.zipWith (· + ·) h V)[k]? =some (Sha.at_ h k+Sha.at_ V k):=by
  unfold Sha.at_
  rw[List.getD_eq_getElem?_getD,List.getD_eq_getElem?_getD,List.getElem?_zipWith,List.getElem?_eq_getElem (by omega),List.getElem?_eq_getElem (by omega)];rfl
 rw[List.set_append_right _ _ (by omega),hl,Nat.sub_self,List.drop_eq_getElem_cons (by omega),List.set_cons_zero,List.take_succ,hz]
 simp
set_option maxRecDepth 4000 in
attribute [local irreducible] Sl.a0L Sl.OW Sl.CW Sl.OS Sl.OM Sl.OMf Sl.KM
theorem k2H (W:World) (hW:h0L W) (b:Nat) (h:List (BitVec 32)) (h8:h.length=8) (wait:Value) (nn:Nat) (g o n cap:Nat) (cur:List Value) (e:TypeId) (fr:Nat×Nat) (bl:B) (hn:64≤n) (hn2:n≤9000000000000000000) (hb:(cur.drop o).take 64=bl.map a0Z) (hl:bl.length=64):
 a0S Tryz.prog 281 #[ptr b,.slice (some ⟨g,o,none⟩) n cap] [shP b h wait nn,pts g (.cells cur.toArray e fr),whole W] (b0G (.tuple #[]) [shP b (Sha.mix h bl) wait nn,pts g (.cells cur.toArray e fr),whole W]):=by
 have hws:(wsL h).length=8:=by simp[h8]
 have hwl:(Sha.j0Z bl).length=64:=by unfold Sha.j0Z;rw[r0C,x0Z]
 have hwl':(wsL (Sha.j0Z bl)).toArray.size=64:=by simp[hwl]
 have hrl:(wsL Sha.e0Q).toArray.size=64:=by rfl
 refine a0C Tryz.func281 rfl Tryz.ntmps281 rfl (fun R w0=> ?_)
 simp only[a0N,List.cons_append,List.nil_append]
 refine go 3 ?_
 refine a0D rfl Hb.o rfl (u1X g o n cap cur e fr bl hn hn2 hb hl) gSp ?_
 refine ns ?_
 refine(a0U Zr.o (fun b4=> ?_))
 refine a0K Sz.o rfl rfl hwl' (fun x hx=>by simp at hx;obtain⟨_,_,rfl⟩:=hx;rfl) (by rw[hwl'];simp[Value.cells]) (a0R (by rw[hwl'];rfl)) ?_
 refine go 7 ?_
 refine a0F (a0O Ag.o rfl (by simp[h8]) (e0M (a:= []) (b:=wsL h) (c:= [wait,.int .u64 nn]) rfl hws)) ?_
 refine(a0U Zr.o (fun b5=> ?_))
 refine a0K Sz.o rfl rfl (by simp[h8]) (fun x hx=>by simp at hx;obtain⟨_,_,rfl⟩:=hx;rfl) (by simp[h8,Value.cells]) (a0R (by simp[h8,Value.cells])) ?_
 refine go 5 ?_
 refine a0F (d2T Ag.o rfl gFd rdG (r2N hW) hrl) ?_
 refine go 4 ?_
 refine b0S (X:= {i:Nat // i≤64}) (fun y=> [(0,ptr b),(4,ptr b4),(5,ptr b5),(19,.agg (wsL Sha.e0Q).toArray),(20,.int .i64 y.1)]) (fun y=> [pts b5 (.cells (wsL (Sha.j0F (Sha.j0Z bl) h y.1)).toArray 306 (0,0)),pts b4 (.cells (wsL (Sha.j0Z bl)).toArray 343 (0,0)),shP b h wait nn,pts g (.cells cur.toArray e fr),whole W,R]) (fun y=>64-y.1) ⟨0,by omega⟩ gSu gSp ?_
 rintro⟨i,hi⟩ m0 hm0
 try simp only at hm0
 try dsimp only
 have hv8:=m1W (Sha.j0Z bl) h h8 i
 have hsucc:Sha.j0F (Sha.j0Z bl) h (i+1)=Sha.rnd (Sha.j0F (Sha.j0Z bl) h i) (Sha.at_ Sha.e0Q i) (Sha.at_ (Sha.j0Z bl) i):=rfl
 generalize hV:Sha.j0F (Sha.j0Z bl) h i=V at hv8 hsucc ⊢
 refine go 6 ?_
 refine b0C rfl (fun hb21=> ?_) (fun hb21=> ?_)
 ·have hi4:i<64:=by have:=of_decide_eq_true hb21;omega
  refine go 7 ?_
  refine a0F (q0Y Tar.o Sc.o rfl rfl (by omega) (i0V (l:=Sha.e0Q) (j:=i) (by exact hi4) (by omega))) ?_
  refine go 7 ?_
  refine a0F (b0T Sc.o rfl (i0V (l:=V) (j:=4) (by omega) rfl)) ?_
  refine go 4 ?_
  refine d0H (.soft 0 (.soft 1 (.soft 2 (.soft 3 (.soft 4 (.soft 5 (.soft 6 (.soft 7 (.soft 8 (.soft 10 (.soft 13 (.soft 17 (.soft 18 (.soft 19 (.soft 20 (.soft 21 (.soft 22 (.soft 23 (.soft 24 (.soft 25 (.soft 26 (.hard 9 (.hard 11 (.soft 12 (.hard 14 (.soft 15 (.soft 16 (.soft 27 (.soft 28 .done))))))))))))))))))))))))))))) [pts b5 (.cells (wsL V).toArray 306 (0,0)),pts b4 (.cells (wsL (Sha.j0Z bl)).toArray 343 (0,0))] Fol.o (by kernel_rfl) (by repeat (first|with_reducible exact a0J.bp|with_reducible apply a0J.then|with_reducible apply a0J.inBlock)) gSp ?_
  refine go 1 ?_
  refine d0D rfl (b0T Sc.o rfl (i0V (l:=V) (j:=7) (by omega) rfl)) ?_
  refine go 1 ?_
  refine d0D rfl (p0Q rfl rfl) ?_
  refine go 2 ?_
  refine d0D rfl (b0T Sc.o rfl (i0V (l:=Sha.j0Z bl) (j:=i) (by omega) (by omega))) ?_
  refine d0D rfl (p0Q rfl rfl) ?_
  refine go 5 ?_
  refine d0D rfl (b0T Sc.o rfl (i0V (l:=V) (j:=5) (by omega) rfl)) ?_
  refine d0D rfl (b1M rfl rfl) ?_
  refine go 1 ?_
  refine d0D rfl (q2Z rfl) ?_
  refine go 1 ?_
  refine d0D rfl (b0T Sc.o rfl (i0V (l:=V) (j:=6) (by omega) rfl)) ?_
  refine d0D rfl (b1M rfl rfl) ?_
  refine d0D rfl (p0P rfl rfl) ?_
  refine go 1 ?_
  refine a0D rfl Hb.o rfl (l0Z (Sha.at_ V 4) 6 (by omega) (by omega)) gSp ?_
  refine ns ?_
  refine go 3 ?_
  refine a0D rfl Hb.o rfl (l0Z (Sha.at_ V 4) 11 (by omega) (by omega)) gSp ?_
  refine ns ?_
  refine go 2 ?_
  refine d0D rfl (p0P rfl rfl) ?_
  refine go 1 ?_
  refine a0D rfl Hb.o rfl (l0Z (Sha.at_ V 4) 25 (by omega) (by omega)) gSp ?_
  refine ns ?_
  refine go 2 ?_
  refine d0D rfl (p0P rfl rfl) ?_
  refine d0D rfl (p0Q rfl rfl) ?_
  refine d0D rfl (p0Q rfl rfl) ?_
  refine go 6 ?_
  refine a0F (b0T Sc.o rfl (i0V (l:=V) (j:=0) (by omega) rfl)) ?_
  refine go 4 ?_
  refine d0H (.soft 0 (.soft 2 (.soft 5 (.soft 8 (.soft 9 (.soft 10 (.soft 11 (.soft 12 (.soft 13 (.soft 14 (.soft 15 (.soft 16 (.soft 17 (.soft 18 (.soft 19 (.soft 20 (.soft 21 (.soft 22 (.hard 1 (.hard 3 (.soft 4 (.hard 6 (.soft 7 (.soft 23 (.soft 24 .done))))))))))))))))))))))))) [pts b5 (.cells (wsL V).toArray 306 (0,0))] Fol.o (by kernel_rfl) (by repeat (first|with_reducible exact a0J.bp|with_reducible apply a0J.then|with_reducible apply a0J.inBlock)) gSp ?_
  refine go 5 ?_
  refine d0D rfl (b0T Sc.o rfl (i0V (l:=V) (j:=1) (by omega) rfl)) ?_
  refine d0D rfl (b1M rfl rfl) ?_
  refine go 2 ?_
  refine d0D rfl (b0T Sc.o rfl (i0V (l:=V) (j:=2) (by omega) rfl)) ?_
  refine d0D rfl (b1M rfl rfl) ?_
  refine d0D rfl (p0P rfl rfl) ?_
  refine go 1 ?_
  refine d0D rfl (b0T Sc.o rfl (i0V (l:=V) (j:=1) (by omega) rfl)) ?_
  refine go 1 ?_
  refine d0D rfl (b0T Sc.o rfl (i0V (l:=V) (j:=2) (by omega) rfl)) ?_
  refine d0D rfl (b1M rfl rfl) ?_
  refine d0D rfl (p0P rfl rfl) ?_
  refine go 1 ?_
  refine a0D rfl Hb.o rfl (l0Z (Sha.at_ V 0) 2 (by omega) (by omega)) gSp ?_
  refine ns ?_
  refine go 3 ?_
  refine a0D rfl Hb.o rfl (l0Z (Sha.at_ V 0) 13 (by omega) (by omega)) gSp ?_
  refine ns ?_
  refine go 2 ?_
  refine d0D rfl (p0P rfl rfl) ?_
  refine go 1 ?_
  refine a0D rfl Hb.o rfl (l0Z (Sha.at_ V 0) 22 (by omega) (by omega)) gSp ?_
  refine ns ?_
  refine go 2 ?_
  refine d0D rfl (p0P rfl rfl) ?_
  refine d0D rfl (p0Q rfl rfl) ?_
  refine go 6 ?_
  refine a0F (p0Q rfl rfl) ?_
  refine go 1 ?_
  refine a0F (b0T Sc.o rfl (i0V (l:=V) (j:=0) (by omega) rfl)) ?_
  refine go 1 ?_
  refine a0F (b0T Sc.o rfl (i0V (l:=V) (j:=1) (by omega) rfl)) ?_
  refine go 1 ?_
  refine a0F (b0T Sc.o rfl (i0V (l:=V) (j:=2) (by omega) rfl)) ?_
  refine go 1 ?_
  refine a0F (b0T Sc.o rfl (i0V (l:=V) (j:=3) (by omega) rfl)) ?_
  refine go 1 ?_
  refine a0F (p0Q rfl rfl) ?_
  refine go 1 ?_
  refine a0F (b0T Sc.o rfl (i0V (l:=V) (j:=4) (by omega) rfl)) ?_
  refine go 1 ?_
  refine a0F (b0T Sc.o rfl (i0V (l:=V) (j:=5) (by omega) rfl)) ?_
  refine go 1 ?_
  refine a0F (b0T Sc.o rfl (i0V (l:=V) (j:=6) (by omega) rfl)) ?_
  refine a0F (q0E (cs:=wsL (Sha.rnd V (Sha.at_ Sha.e0Q i) (Sha.at_ (Sha.j0Z bl) i))) Tar.o Zr.o rfl (by rfl)) ?_
  refine a0K Sz.o rfl rfl (by rfl) (fun x hx=>by simp at hx;obtain⟨_,_,rfl⟩:=hx;rfl) (by simp[hv8,x1G]) (a0R (by simp[hv8,x1G])) ?_
  refine go 1 ?_
  rw[←hsucc]
  refine go 5 ?_
  refine b0Q (fun _ _ h=>h) (⟨i+1,hi4⟩) (by first|omega| (simp only;omega)) gSu gSp
 ·obtain rfl:i=64:=by have:=of_decide_eq_false hb21;omega
  refine go 8 ?_
  refine b0S (X:= {j:Nat // j≤8}) (fun y=> [(0,ptr b),(5,ptr b5),(101,.int .i64 y.1)]) (fun y=> [shP b (s0I h V y.1) wait nn,pts b5 (.cells (wsL V).toArray 306 (0,0)),pts g (.cells cur.toArray e fr),whole W,R]) (fun y=>8-y.1) ⟨0,by omega⟩ gSu gSp ?_
  rintro⟨j,hj⟩ m2 hm2
  try simp only at hm2
  try dsimp only
  skip
  refine go 6 ?_
  refine b0C rfl (fun hb102=> ?_) (fun hb102=> ?_)
  ·have hj4:j<8:=by have:=of_decide_eq_true hb102;omega
   refine go 10 ?_
   refine d0S 12 Fol.o (by kernel_rfl) ?_
   simp only[List.take_succ_cons,List.take_zero,List.drop_succ_cons,List.drop_zero]
   refine go 5 ?_
   refine c0K (b0T Sc.o rfl (y0Q (l:=s0I h V j) (j:=j) (by rw[c1H h8 hv8 hj];exact hj4) (by omega))) ?_
   refine go 2 ?_
   refine c0K (b0T Sc.o rfl (i0V (l:=V) (j:=j) (by omega) (by omega))) ?_
   refine c0K (p0Q rfl rfl) ?_
   refine go 4 ?_
   rw[k2G h8 hv8 hj4]
   refine d0V Sz.o rfl rfl rfl (by rw[Nat.blt_eq];simp[c1H h8 hv8 hj];omega) (f2A h8 hv8 hj4 (by omega)) ?_
   refine go 6 ?_
   refine b0Q (fun _ _ h=>h) (⟨j+1,hj4⟩) (by first|omega| (simp only;omega)) gSu gSp
  ·obtain rfl:j=8:=by have:=of_decide_eq_false hb102;omega
   refine go 1 ?_
   have hz:s0I h V 8=Sha.mix h bl:=by unfold s0I Sha.mix;rw[List.drop_eq_nil_of_le (by omega),List.append_nil,List.take_of_length_le (by simp[h8,hv8]),hV]
   rw[hz]
   exact e0N rfl rfl gSp
end
end Go.Proofs.Q
namespace Go.Proofs.YtpinhnikemamjaaGreatDoor
open Go.Proofs.Q
open Go.ChangeShapes Go.WideShapes Go.ChangeAt Go.RowKit Go.Sl
theorem p2A : Tryz.prog.globalNamed "stereobate/sha.rounds" = some 1 := by kernel_rfl
theorem r2O {W:World} {r:List (String×DataW Unit)}
 (h : laidMet Tryz.prog (("stereobate/sha.rounds", Rows.laid_stereobate_sha_rounds) :: r) W) (_ : W.ShapedOpen Tryz.prog) : h0L W :=
 Lib.tabIs_of_head (n:=64) (e:=47) (t:=343) p2A (by kernel_rfl) Tryz.underlying343 Tryz.underlying47 (by kernel_rfl) (by kernel_rfl) h
theorem r2P {H:Type} {enc:TypeId×Value→H} {a:Assume} {C:Checked} {os:Os} {f:FuncId} {fn:Func} {s:ChangeSpec} {conds:List PathCond} {apart fresh handsOn again:Bool} {L:List (String×DataW Unit)}
 (own:ownKnob C.prog.godebug=none) (started:os.Started) (noInit:C.prog.inits.idxOf? f=none) (hfn:C.prog.funcs[f]? =some fn)
 (witness: ∃(w:World) (tape:Tape) (i:Input),w.os=os∧(w.forCall tape i).Shaped C.prog∧i.vars= []∧Input.okWide C.prog (w.forCall tape i) .any w.heap.size f i∧
  ((s.pre enc C.prog fn conds apart (w.forCall tape i).memory i.args∧laidMetH C.prog L (w.forCall tape i).memory)∧sizedMet enc C.prog fn (OpenSpec.ofChange s) apart (w.forCall tape i).memory i.args)∧a.holds C.prog (lone (Frame.enter C.prog f i.args .normal) [] (w.forCall tape i)))
 (g1Y: ∀(W:World) (base:Nat) (args:Array Value) (ds gs:List (DataW H)) (before:List MemPlace),
  (∀(j:Nat) t v,fn.params[j]? =some t→args[j]? =some v→Value.okWide C.prog W .any base t v)→DataW.Whole enc C.prog fn.params.toList s.vars apart W args.toList ds gs before→
  W.ShapedOpen C.prog→laidMetH C.prog L W→Calls C.prog f args W fun e W'=> ∃v,e= .returned v∧s.post enc C.prog fn apart fresh handsOn again W args v W'):
 ReturnsInHanded a C os f .any (fun w args=>(s.pre enc C.prog fn conds apart w args∧laidMetH C.prog L w)∧sizedMet enc C.prog fn (OpenSpec.ofChange s) apart w args) (s.post enc C.prog fn apart fresh handsOn again):=by
 refine returnsInHanded_of_calls own started noInit witness fun w tape i _ hsh _ hok hpre _=> ?_
 obtain⟨_,_,_,g,hg,_,_,_,_,hval⟩:=hok
 cases Option.some.inj (hg.symm.trans hfn)
 obtain⟨⟨⟨ds,gs,before,hw,_⟩,hx⟩,_⟩:=hpre
 have hw':DataW.Whole enc C.prog fn.params.toList s.vars apart (w.forCall tape i) i.args.toList ds gs before:=DataW.Whole.of_heap (by rfl) hw
 have hx':laidMetH C.prog L (w.forCall tape i):=laidMetH.of_heap (w:=(w.forCall tape i).memory) (by rfl) hx
 refine(g1Y (w.forCall tape i) w.heap.size i.args ds gs before hval hw' hsh hx').mono fun e W' h=> ?_
 obtain⟨v,rfl,hp⟩:=h
 exact ChangeSpec.post_blind hp
end Go.Proofs.YtpinhnikemamjaaGreatDoor
namespace Go.Proofs.Q
section
open Go
end
end Go.Proofs.Q
namespace Go.Proofs.Q
open Go
instance:Sl.Ag Tryz.prog 24 5:=⟨by kernel_rfl⟩
instance:Sl.Ag Tryz.prog 42 6:=⟨by kernel_rfl⟩
theorem F.bo4:(match Tryz.prog.underlying 4 with|some .bool=>true|_=>false)=true:=by kernel_rfl
instance:Sl.Fl Tryz.prog 24 1 1:=⟨by kernel_rfl⟩
instance:Sl.Fl Tryz.prog 34 0 0:=⟨by kernel_rfl⟩
instance:Sl.Fl Tryz.prog 37 0 0:=⟨by kernel_rfl⟩
instance:Sl.Fl Tryz.prog 37 1 1:=⟨by kernel_rfl⟩
instance:Sl.Fl Tryz.prog 42 0 0:=⟨by kernel_rfl⟩
instance:Sl.Fl Tryz.prog 42 2 2:=⟨by kernel_rfl⟩
instance:Sl.Fl Tryz.prog 42 3 3:=⟨by kernel_rfl⟩
instance:Sl.Fl Tryz.prog 50 2 2:=⟨by kernel_rfl⟩
instance:Sl.Fl Tryz.prog 50 3 3:=⟨by kernel_rfl⟩
instance:Sl.Hb Tryz.prog 10:=⟨by kernel_rfl⟩
instance:Sl.Hb Tryz.prog 11:=⟨by kernel_rfl⟩
instance:Sl.Hb Tryz.prog 12:=⟨by kernel_rfl⟩
instance:Sl.Hb Tryz.prog 13:=⟨by kernel_rfl⟩
instance:Sl.Hb Tryz.prog 15:=⟨by kernel_rfl⟩
instance:Sl.e0T Tryz.prog 38 3 9:=⟨by kernel_rfl⟩
instance:Sl.Sc Tryz.prog 32:=⟨by kernel_rfl⟩
instance:Sl.Sc Tryz.prog 35:=⟨by kernel_rfl⟩
instance:Sl.Tsl Tryz.prog 22 24 5:=⟨by kernel_rfl⟩
instance:Sl.Tsl Tryz.prog 32 42 6:=⟨by kernel_rfl⟩
instance:Sl.Sz Tryz.prog 42 6:=⟨by kernel_rfl⟩
instance:Sl.Sz Tryz.prog 44 32:=⟨by kernel_rfl⟩
instance:Sl.Zr Tryz.prog 42 (.agg #[.int .i64 (0),.int .i64 (0),.bool false,.int .i64 (0),.int .i64 (0),.slice none 0 0]):=⟨by kernel_rfl⟩
instance:Sl.Zr Tryz.prog 44 (.agg #[.int .u8 (0),.int .u8 (0),.int .u8 (0),.int .u8 (0),.int .u8 (0),.int .u8 (0),.int .u8 (0),.int .u8 (0),.int .u8 (0),.int .u8 (0),.int .u8 (0),.int .u8 (0),.int .u8 (0),.int .u8 (0),.int .u8 (0),.int .u8 (0),.int .u8 (0),.int .u8 (0),.int .u8 (0),.int .u8 (0),.int .u8 (0),.int .u8 (0),.int .u8 (0),.int .u8 (0),.int .u8 (0),.int .u8 (0),.int .u8 (0),.int .u8 (0),.int .u8 (0),.int .u8 (0),.int .u8 (0),.int .u8 (0)]):=⟨by kernel_rfl⟩
end Go.Proofs.Q
namespace Go.Proofs.Q
section
open Go
end
section
open Go
end
end Go.Proofs.Q
namespace Go.Proofs.Q
open Go
instance:Sl.Ag Tryz.prog 34 4:=⟨by kernel_rfl⟩
instance:Sl.Fl Tryz.prog 24 0 0:=⟨by kernel_rfl⟩
instance:Sl.Fl Tryz.prog 24 2 2:=⟨by kernel_rfl⟩
instance:Sl.Fl Tryz.prog 24 3 3:=⟨by kernel_rfl⟩
instance:Sl.Fl Tryz.prog 34 3 3:=⟨by kernel_rfl⟩
instance:Sl.Fl Tryz.prog 59 0 0:=⟨by kernel_rfl⟩
instance:Sl.Hb Tryz.prog 19:=⟨by kernel_rfl⟩
instance:Sl.Hb Tryz.prog 38:=⟨by kernel_rfl⟩
instance:Sl.Hb Tryz.prog 40:=⟨by kernel_rfl⟩
instance:Sl.Hb Tryz.prog 42:=⟨by kernel_rfl⟩
instance:Sl.Hb Tryz.prog 43:=⟨by kernel_rfl⟩
instance:Sl.Hb Tryz.prog 44:=⟨by kernel_rfl⟩
instance:Sl.Hb Tryz.prog 45:=⟨by kernel_rfl⟩
instance:Sl.Hb Tryz.prog 46:=⟨by kernel_rfl⟩
instance:Sl.Hb Tryz.prog 47:=⟨by kernel_rfl⟩
instance:Sl.Hb Tryz.prog 48:=⟨by kernel_rfl⟩
instance:Sl.Hb Tryz.prog 49:=⟨by kernel_rfl⟩
instance:Sl.Sz Tryz.prog 34 4:=⟨by kernel_rfl⟩
instance:Sl.Zr Tryz.prog 34 (.agg #[.slice none 0 0,.int .i64 (0),.int .i64 (0),.int .i64 (0)]):=⟨by kernel_rfl⟩
instance:Sl.Fl Tryz.prog 24 4 4:=⟨by kernel_rfl⟩
instance:Sl.Hb Tryz.prog 18:=⟨by kernel_rfl⟩
instance:Sl.Hb Tryz.prog 21:=⟨by kernel_rfl⟩
instance:Sl.Hb Tryz.prog 22:=⟨by kernel_rfl⟩
instance:Sl.Hb Tryz.prog 23:=⟨by kernel_rfl⟩
instance:Sl.Hb Tryz.prog 74:=⟨by kernel_rfl⟩
instance:Sl.Hb Tryz.prog 75:=⟨by kernel_rfl⟩
instance:Sl.Hb Tryz.prog 76:=⟨by kernel_rfl⟩
instance:Sl.Hb Tryz.prog 77:=⟨by kernel_rfl⟩
instance:Sl.Hb Tryz.prog 78:=⟨by kernel_rfl⟩
end Go.Proofs.Q
namespace Go.Proofs.Q
section
open Go
end
section
open Go
end
end Go.Proofs.Q
namespace Go.Proofs.Q
open Go
instance:Sl.Hb Tryz.prog 101:=⟨by kernel_rfl⟩
instance:Sl.Hb Tryz.prog 102:=⟨by kernel_rfl⟩
instance:Sl.Hb Tryz.prog 125:=⟨by kernel_rfl⟩
instance:Sl.Hb Tryz.prog 126:=⟨by kernel_rfl⟩
instance:Sl.Fl Tryz.prog 42 5 5:=⟨by kernel_rfl⟩
instance:Sl.Hb Tryz.prog 127:=⟨by kernel_rfl⟩
instance:Sl.Hb Tryz.prog 171:=⟨by kernel_rfl⟩
instance:Sl.Hb Tryz.prog 172:=⟨by kernel_rfl⟩
instance:Sl.Sc Tryz.prog 40:=⟨by kernel_rfl⟩
instance:Sl.Sz Tryz.prog 40 1:=⟨by kernel_rfl⟩
end Go.Proofs.Q
namespace Go.Proofs.Q
section
open Go
end
end Go.Proofs.Q
namespace Go.Proofs.Q
open Go
instance:Sl.Hb Tryz.prog 145:=⟨by kernel_rfl⟩
instance:Sl.Hb Tryz.prog 173:=⟨by kernel_rfl⟩
instance:Sl.Hb Tryz.prog 174:=⟨by kernel_rfl⟩
instance:Sl.Hb Tryz.prog 175:=⟨by kernel_rfl⟩
instance:Sl.Ag Tryz.prog 259 2:=⟨by kernel_rfl⟩
instance:Sl.Ag Tryz.prog 277 2:=⟨by kernel_rfl⟩
instance:Sl.Fl Tryz.prog 259 1 1:=⟨by kernel_rfl⟩
instance:Sl.Fl Tryz.prog 34 2 2:=⟨by kernel_rfl⟩
instance:Sl.Hb Tryz.prog 208:=⟨by kernel_rfl⟩
instance:Sl.Pl Tryz.prog 277 ([(0,1),(1,1)],.agg #[.slice none 0 0,.int .i64 (0)]):=⟨by kernel_rfl⟩
instance:Sl.Tsl Tryz.prog 40 259 2:=⟨by kernel_rfl⟩
instance:Sl.Sz Tryz.prog 259 2:=⟨by kernel_rfl⟩
instance:Sl.Sz Tryz.prog 277 2:=⟨by kernel_rfl⟩
instance:Sl.Zr Tryz.prog 259 (.agg #[.int .i64 (0),.string ByteArray.empty]):=⟨by kernel_rfl⟩
instance:Sl.Zr Tryz.prog 277 (.agg #[.slice none 0 0,.int .i64 (0)]):=⟨by kernel_rfl⟩
instance:Sl.Hb Tryz.prog 103:=⟨by kernel_rfl⟩
end Go.Proofs.Q
namespace Go.Proofs.Q
section
open Go
end
end Go.Proofs.Q
namespace Go.Proofs.Q
open Go
instance:Sl.Sz Tryz.prog 32 1:=⟨by kernel_rfl⟩
instance:Sl.Ttb Tryz.prog 42 64:=⟨by kernel_rfl⟩
instance:Sl.Hb Tryz.prog 100:=⟨by kernel_rfl⟩
instance:Sl.Pl Tryz.prog 42 ([(0,1),(1,1),(2,1),(3,1),(4,1),(5,1)],.agg #[.int .i64 (0),.int .i64 (0),.bool false,.int .i64 (0),.int .i64 (0),.slice none 0 0]):=⟨by kernel_rfl⟩
end Go.Proofs.Q
namespace Go.Proofs.Q
section
open Go
end
end Go.Proofs.Q
namespace Go.Proofs.Q
open Go
instance:Sl.Fl Tryz.prog 34 1 1:=⟨by kernel_rfl⟩
instance:Sl.Fl Tryz.prog 42 4 4:=⟨by kernel_rfl⟩
end Go.Proofs.Q
namespace Go.Proofs.Q
section
open Go
end
section
open Go
end
end Go.Proofs.Q
namespace Go.Proofs.Q
open Go
instance:Sl.Fl Tryz.prog 259 0 0:=⟨by kernel_rfl⟩
instance:Sl.Pl Tryz.prog 259 ([(0,1),(1,1)],.agg #[.int .i64 (0),.string ByteArray.empty]):=⟨by kernel_rfl⟩
instance:Sl.Ttb Tryz.prog 259 24:=⟨by kernel_rfl⟩
instance:Sl.Fl Tryz.prog 277 1 1:=⟨by kernel_rfl⟩
instance:Sl.Hb Tryz.prog 188:=⟨by kernel_rfl⟩
instance:Sl.Hb Tryz.prog 261:=⟨by kernel_rfl⟩
end Go.Proofs.Q
namespace Go.Proofs.Q
section
open Go
end
end Go.Proofs.Q
namespace Go.Proofs.Q
open Go
instance:Sl.Hb Tryz.prog 227:=⟨by kernel_rfl⟩
instance:Sl.Hb Tryz.prog 228:=⟨by kernel_rfl⟩
instance:Sl.Hb Tryz.prog 229:=⟨by kernel_rfl⟩
instance:Sl.Hb Tryz.prog 230:=⟨by kernel_rfl⟩
instance:Sl.Hb Tryz.prog 231:=⟨by kernel_rfl⟩
end Go.Proofs.Q
namespace Go.Proofs.Q
section
open Go
end
section
open Go
end
end Go.Proofs.Q
namespace Go.Proofs.Q
open Go
instance:Sl.Fl Tryz.prog 308 1 8:=⟨by kernel_rfl⟩
instance:Sl.Fl Tryz.prog 308 2 9:=⟨by kernel_rfl⟩
instance:Sl.Hb Tryz.prog 246:=⟨by kernel_rfl⟩
instance:Sl.Hb Tryz.prog 247:=⟨by kernel_rfl⟩
instance:Sl.Sc Tryz.prog 147:=⟨by kernel_rfl⟩
instance:Sl.Sz Tryz.prog 5 1:=⟨by kernel_rfl⟩
instance:Sl.Pl Tryz.prog 308 ([(0,8),(8,1),(9,1)],.agg #[.int .u32 (0),.int .u32 (0),.int .u32 (0),.int .u32 (0),.int .u32 (0),.int .u32 (0),.int .u32 (0),.int .u32 (0),.slice none 0 0,.int .u64 (0)]):=⟨by kernel_rfl⟩
instance:Sl.Hb Tryz.prog 281:=⟨by kernel_rfl⟩
instance:Sl.Sz Tryz.prog 147 1:=⟨by kernel_rfl⟩
end Go.Proofs.Q
namespace Go.Proofs.Q
open Go.Sl Go.Sb
section
theorem q0G: ∀(n:Nat) (h:List Sha.W) (b:B),Sha.f0E (n+1) h b=Sha.mix (Sha.f0E n h b) ((b.drop (64*n)).take 64)
 |0,h,b=>rfl
 |n+1,h,b=>by
  show Sha.f0E (n+1) (Sha.mix h (b.take 64)) (b.drop 64)=_
  rw[q0G n,List.drop_drop]
  show _=Sha.mix (Sha.f0E n (Sha.mix h (b.take 64)) (b.drop 64)) _
  rw[Nat.mul_succ,Nat.add_comm (64*n)]
theorem l0Y: ∀(n:Nat) (h:List Sha.W) (b:B),h.length=8→(Sha.f0E n h b).length=8
 |0,_,_,hh=>hh
 |n+1,h,b,hh=>l0Y n _ _ (by unfold Sha.mix;rw[List.length_zipWith,m1W _ _ hh,hh];rfl)
abbrev i1P (v:Value) (l:B):a0E:=u0J 5 1 v l.length (l.map a0Z)
theorem y0R {h:List Sha.W} {v u:Value} (h8:h.length=8):nth (wsL h++ [v,u]) 8=some v:=by
 rw[e0L,List.getElem?_append_right (by simp[h8])];simp[h8]
theorem x1I {h:List Sha.W} {v u:Value} (h8:h.length=8):nth (wsL h++ [v,u]) 9=some u:=by
 rw[e0L,List.getElem?_append_right (by simp[h8])];simp[h8]
theorem x1J {h:List Sha.W} {v u x:Value} (h8:h.length=8):(wsL h++ [v,u]).set 8 x=wsL h++ [x,u]:=by
 rw[List.set_append_right _ _ (by simp[h8])];simp[h8]
theorem p2B {h:List Sha.W} {v u x:Value} (h8:h.length=8):(wsL h++ [v,u]).set 9 x=wsL h++ [v,x]:=by
 rw[List.set_append_right _ _ (by simp[h8])];simp[h8]
theorem k2I {g o cap:Nat} {cur:List Value} {dl:B} {w:World} {L:List a0E} (h:Sat w (pts g (.cells cur.toArray 5 (0,0))::L)) (h1:dl.length≤cap) (h2:cap≤maxLen) (h3:o+cap*1≤cur.length)
 (h4:(cur.drop o).take (dl.length*1)=dl.map a0Z) (hk:64≤dl.length):Sat w (i1P (.slice (z0E (some ⟨g,o,none⟩) 64 cap 1) (dl.drop 64).length (cap-64)) (dl.drop 64)::L):=by
 have:=i2S h h1 h2 h3 h4 hk
 rwa [←List.map_drop,show dl.length-64=(dl.drop 64).length by simp]at this
set_option maxRecDepth 4000 in
attribute [local irreducible] Sl.a0L Sl.OW Sl.CW Sl.OS Sl.OM Sl.OMf Sl.KM
theorem k2J (W:World) (hW:h0L W) (b:Nat) (h:List (BitVec 32)) (h8:h.length=8) (v:Value) (hv:v.oneCell'=true) (nn:Nat) (wl l:B) (hwl:wl.length<64) (hll:l.length≤1000000) (hnn:nn≤1000000000):
 a0S Tryz.prog 247 #[ptr b,b0H l] [shP b h v nn,i1P v wl,whole W]
  (c0X (fun v':Value=>v'.oneCell'=true) (fun _=> .tuple #[]) fun v'=> [shP b (Sha.f0E ((wl++l).length/64) h (wl++l)) v' (nn+l.length),i1P v' ((wl++l).drop (64*((wl++l).length/64))),whole W]):=by
 have hsl:(bs l).data.toList.length=l.length:=by simp
 have hbl:byteCells (bs l)=l.map a0Z:=by simp[byteCells,a0Z]
 refine a0C Tryz.func247 rfl Tryz.ntmps247 rfl (fun R w0=> ?_)
 simp only[a0N,List.cons_append,List.nil_append]
 refine go 5 ?_
 refine a0F (b0T Sc.o rfl (x1I h8)) ?_
 refine go 3 ?_
 rw[b0N,p0R (l.length:Int) l.length rfl (by omega)]
 refine a0F (g1Z rfl rfl) ?_
 rw[p0R ((nn:Int)+(l.length:Int)) (nn+l.length) (by omega) (by omega)]
 refine go 2 ?_
 refine d0V Sz.o rfl rfl rfl (by rw[Nat.blt_eq];simp[h8]) (p2B h8) ?_
 refine go 8 ?_
 refine a0F (b0T Sc.o rfl (y0R h8)) ?_
 refine go 1 ?_
 refine(z1K Tsl.o Ttb.o Zr.o rfl rfl rfl gFd (k1B Tst.o) (by rw[b0N];simp only[maxLen];omega) (by rw[b0N];omega) (fun v20 hv20=> ?_))
 rw[hbl,b0N,←List.map_append,←List.length_append]
 refine go 2 ?_
 refine d0V Sz.o rfl rfl hv20 (by rw[Nat.blt_eq];simp[h8]) (x1J h8) ?_
 refine go 1 ?_
 generalize hall:wl++l=al
 refine go 2 ?_
 refine b0S (X:= {y:Nat×Value // y.1≤al.length/64∧y.2.oneCell'=true}) (fun y=> [(0,ptr b)]) (fun y=> [shP b (Sha.f0E y.1.1 h al) y.1.2 (nn+l.length),i1P y.1.2 (al.drop (64*y.1.1)),whole W,R]) (fun y=>al.length/64-y.1.1) ⟨(0,v20),by omega,hv20⟩ gSu gSp ?_
 rintro⟨⟨i,v'⟩,hi,hv'⟩ m0 hm0
 try simp only at hm0
 try dsimp only
 simp only at hi hv'
 have hm8:=l0Y i h al h8
 have hsucc:=q0G i h al
 have hdl:(al.drop (64*i)).length=al.length-64*i:=by simp
 have hal:al.length≤1000100:=by rw[←hall,List.length_append];omega
 generalize hH:Sha.f0E i h al=H at hm8 hsucc ⊢
 generalize hD:al.drop (64*i)=dl at hdl hsucc ⊢
 refine go 6 ?_
 refine a0F (b0T Sc.o rfl (y0R hm8)) ?_
 refine a0F (h1S Tsl.o rfl gFd) ?_
 refine go 3 ?_
 refine b0C rfl (fun hb28=> ?_) (fun hb28=> ?_)
 ·have hd64:64≤dl.length:=by have:=of_decide_eq_true hb28;omega
  have hil:i<al.length/64:=by omega
  refine go 4 ?_
  refine n2R gFd (by omega) fun g o cap cur hvs hc1 hc2 hc3 hc4=> ?_
  refine go 1 ?_
  subst hvs
  refine go 4 ?_
  refine a0F (b0T Sc.o rfl (y0R hm8)) ?_
  refine a0F (f1L Tsl.o rfl rfl (by omega)) ?_
  have hb64:(cur.drop o).take 64=(dl.take 64).map a0Z:=by rw[List.map_take,←hc4,Nat.mul_one,List.take_take,Nat.min_eq_left hd64]
  refine a0D rfl Hb.o rfl (k2H W hW b H hm8 _ (nn+l.length) g o 64 cap cur 5 (0,0) (dl.take 64) (by omega) (by omega) hb64 (by simp;omega)) gSp ?_
  refine ns ?_
  refine go 1 ?_
  rw[←hsucc]
  refine go 6 ?_
  refine a0F (b0T Sc.o rfl (y0R (l0Y _ _ _ h8))) ?_
  refine a0F (p1A Tsl.o rfl rfl (by omega) (by omega)) ?_
  rw[show Int.toNat 64=64 from rfl,show dl.length-64=(dl.drop 64).length by simp]
  refine go 2 ?_
  refine d0V Sz.o rfl rfl rfl (by rw[Nat.blt_eq];simp[l0Y _ _ _ h8]) (x1J (l0Y _ _ _ h8)) ?_
  refine go 1 ?_
  have hnext:al.drop (64*(i+1))=dl.drop 64:=by rw[←hD,x0I]
  refine b0O (fun w hs=>k2I ((show Fnd _ (pts g _) _ from gFd).sat hs) hc1 hc2 hc3 hc4 hd64) ?_
  rw[←hnext]
  refine b0Q (fun _ _ h=>h) (⟨(i+1,.slice (z0E (some ⟨g,o,none⟩) 64 cap 1) (al.drop (64*(i+1))).length (cap-64)),hil,rfl⟩) (by first|omega| (simp only;omega)) gSu gSp
 ·have hd64: ¬64≤dl.length:=by have:=of_decide_eq_false hb28;omega
  obtain rfl:i=al.length/64:=by omega
  refine go 1 ?_
  rw[←hH,←hD]
  exact n0S v' hv' rfl rfl gSp
end
section
theorem m1X: ∀(j k:Nat) (h:List Sha.W) (b:B),Sha.f0E (k+j) h b=Sha.f0E j (Sha.f0E k h b) (b.drop (64*k))
 |0,k,h,b=>rfl
 |j+1,k,h,b=>by
  rw[show k+(j+1)=(k+j)+1 by omega,q0G,q0G,m1X j k,List.drop_drop,show 64*k+64*j=64*(k+j) by omega]
theorem e1S: ∀(k:Nat) (h:List Sha.W) (b c:B),64*k≤b.length→Sha.f0E k h (b++c)=Sha.f0E k h b
 |0,_,_,_,_=>rfl
 |k+1,h,b,c,hl=>by
  rw[q0G,q0G,e1S k h b c (by omega),List.drop_append_of_le_length (by omega),List.take_append_of_le_length (by simp;omega)]
abbrev stA (b:Nat) (v:Value) (al:B):List a0E:= [shP b (Sha.f0E (al.length/64) Sha.start al) v al.length,i1P v (al.drop (64*(al.length/64)))]
theorem i1Q (W:World) (hW:h0L W) (b:Nat) (v:Value) (hv:v.oneCell'=true) (al l:B) (hal:al.length≤1000000) (hll:l.length≤1000000):
 a0S Tryz.prog 247 #[ptr b,b0H l] (stA b v al++ [whole W]) (c0X (fun v':Value=>v'.oneCell'=true) (fun _=> .tuple #[]) fun v'=>stA b v' (al++l)++ [whole W]):=by
 have h:=k2J W hW b (Sha.f0E (al.length/64) Sha.start al) (l0Y _ _ _ rfl) v hv al.length (al.drop (64*(al.length/64))) l (by simp;omega) hll (by omega)
 have hk:64*(al.length/64)≤al.length:=by omega
 have hdrop:al.drop (64*(al.length/64))++l=(al++l).drop (64*(al.length/64)):=(List.drop_append_of_le_length hk).symm
 have hlen:(al.drop (64*(al.length/64))++l).length/64+al.length/64=(al++l).length/64:=by simp;omega
 have e1:Sha.f0E ((al.drop (64*(al.length/64))++l).length/64) (Sha.f0E (al.length/64) Sha.start al) (al.drop (64*(al.length/64))++l)=Sha.f0E ((al++l).length/64) Sha.start (al++l):=by
  rw[←hlen,Nat.add_comm,m1X,e1S _ _ _ _ hk,←hdrop]
 have e2:(al.drop (64*(al.length/64))++l).drop (64*((al.drop (64*(al.length/64))++l).length/64))=(al++l).drop (64*((al++l).length/64)):=by
  rw[←hlen]
  conv=>lhs;rw[hdrop]
  rw[List.drop_drop,Nat.mul_add,Nat.add_comm (64*(al.length/64))]
  rw[hdrop]
 rw[e1,e2]at h
 rw[show al.length+l.length=(al++l).length by simp]at h
 exact h
attribute [local irreducible] Sl.a0L Sl.OW Sl.CW Sl.OS Sl.OM Sl.OMf Sl.KM
theorem a2Q:a0S Tryz.prog 246 #[] [] (c0X (fun _:Nat=>True) ptr fun b=> [shP b Sha.start (.slice none 0 0) 0]):=by
 refine a0C Tryz.func246 rfl Tryz.ntmps246 rfl (fun R w0=> ?_)
 simp only[a0N,List.cons_append,List.nil_append]
 refine go 7 ?_
 refine a0F (q0E (cs:=wsL Sha.start) Tar.o Zr.o rfl (by rfl)) ?_
 refine a0F (r0J (cs:=wsL Sha.start++ [.slice none 0 0,.int .u64 0]) Pl.o rfl (by rfl)) ?_
 refine(a0X rfl (fun b3=> ?_))
 refine go 3 ?_
 refine d0Z b3 trivial (fun _ _ h=>h) rfl rfl gSp
theorem i1R {ss:List B} {i:Nat} (h:i<ss.length):(ss.take (i+1)).flatten=(ss.take i).flatten++ss[i]:=by
 rw[List.take_succ,List.getElem?_eq_getElem h,List.flatten_append];simp
theorem p2C {ss:List B} : ∀(i:Nat),(ss.take i).flatten.length≤ss.flatten.length:=fun i=>by
 conv=>rhs;rw[←List.take_append_drop i ss]
 rw[List.flatten_append,List.length_append];omega
end
end Go.Proofs.Q

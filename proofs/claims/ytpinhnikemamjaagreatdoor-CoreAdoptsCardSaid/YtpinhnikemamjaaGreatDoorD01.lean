/- Part of the proof; no statement of its own. -/
import Derived.Laws.World
import Derived.Laws.AppendOwn
import Derived.Tactics
import Derived.IntWalk
import Derived.BigFrame
set_option linter.all false
set_option maxRecDepth 4000
set_option maxHeartbeats 4000000
namespace Go.Sl
abbrev b0B:=List (Nat×Obj)
abbrev a0E:=b0B→Prop
def pts (b:Nat) (o:Obj):a0E:=fun l=>l= [(b,o)]
def all:List a0E→b0B→Prop
 | [],l=>l= []
 |A::L,l=> ∃l1 l2,l=l1++l2∧A l1∧all L l2
def b0E (L:List a0E):a0E:=all L
def ex {α:Type} (A:α→a0E):a0E:=fun l=> ∃x,A x l
def m0X (p:Prop):a0E:=fun l=>p∧l= []
def Sat (w:World) (L:List a0E):Prop:=
 ∃l:b0B,all L l∧(l.map (·.1)).Nodup∧ ∀b o,(b,o)∈l→w.heap[b]? =some o
theorem w0H {L M:List a0E} {l:b0B} :all (L++M) l↔ ∃l1 l2,l=l1++l2∧all L l1∧all M l2:=by
 induction L generalizing l with
 |nil=>
  constructor
  ·intro h;exact⟨[],l,rfl,rfl,h⟩
  ·rintro⟨_,_,rfl,rfl,h⟩;exact h
 |cons A L ih=>
  simp only[List.cons_append,all,ih];constructor
  ·rintro⟨l1,l2,rfl,h1,l3,l4,rfl,h3,h4⟩;exact⟨l1++l3,l4,by simp,⟨l1,l3,rfl,h1,h3⟩,h4⟩
  ·rintro⟨l1,l2,rfl,⟨l3,l4,rfl,h3,h4⟩,h2⟩;exact⟨l3,l4++l2,by simp,h3,l4,l2,rfl,h4,h2⟩
theorem n2M {L M:List a0E} (h:L.Perm M): ∀ {l:b0B},all L l→ ∃m,all M m∧l.Perm m:=by
 induction h with
 |nil=>intro l c;exact⟨l,c,List.Perm.refl _⟩
 |cons A _ ih=>
  rintro l ⟨a,q,rfl,b,i⟩;obtain⟨m,d,e⟩:=ih i;exact⟨a++m,⟨a,m,rfl,b,d⟩,List.Perm.append_left a e⟩
 |swap A B L=>
  rintro l ⟨a,q,rfl,b,g,f,rfl,j,k⟩;refine⟨g++(a++f),⟨g,_,rfl,j,a,f,rfl,b,k⟩,?_⟩;rw[←List.append_assoc,←List.append_assoc];exact List.Perm.append_right f List.perm_append_comm
 |trans _ _ ih1 ih2=>
  intro l c;obtain⟨m,d,e⟩:=ih1 c;obtain⟨n,o,p⟩:=ih2 d;exact⟨n,o,e.trans p⟩
theorem Sat.perm {w:World} {L M:List a0E} (h:Sat w L) (g:L.Perm M):Sat w M:=by
 obtain⟨l,c,d,e⟩:=h;obtain⟨m,f,a⟩:=n2M g c;exact⟨m,f,(a.map _).nodup_iff.1 d,fun b o hb=>e b o (a.mem_iff.2 hb)⟩
theorem Sat.tail {w:World} {A:a0E} {L:List a0E} (h:Sat w (A::L)):Sat w L:=by
 obtain⟨l,⟨g,e,rfl,f,c⟩,a,d⟩:=h;refine⟨e,c,?_,fun b o hb=>d b o (List.mem_append_right _ hb)⟩;rw[List.map_append]at a;exact(List.nodup_append.1 a).2.1
theorem Sat.drop {w:World} {L M:List a0E} (h:Sat w (L++M)):Sat w M:=by
 induction L with
 |nil=>exact h
 |cons A L ih=>exact ih h.tail
theorem Sat.mono_head {w:World} {A B:a0E} {L:List a0E} (h:Sat w (A::L)) (a: ∀l,A l→B l):Sat w (B::L):=by
 obtain⟨l,⟨b,c,rfl,d,e⟩,g,f⟩:=h;exact⟨b++c,⟨b,c,rfl,a _ d,e⟩,g,f⟩
theorem g0K {w:World} {α:Type} {A:α→a0E} {L:List a0E} :Sat w (ex A::L)↔ ∃x,Sat w (A x::L):=by
 constructor
 ·rintro⟨l,⟨l1,l2,rfl,⟨x,h1⟩,h2⟩,hn,hh⟩;exact⟨x,l1++l2,⟨l1,l2,rfl,h1,h2⟩,hn,hh⟩
 ·rintro⟨x,l,⟨l1,l2,rfl,h1,h2⟩,hn,hh⟩;exact⟨l1++l2,⟨l1,l2,rfl,⟨x,h1⟩,h2⟩,hn,hh⟩
theorem u0D {w:World} {p:Prop} {L:List a0E} :Sat w (m0X p::L)↔p∧Sat w L:=by
 constructor
 ·rintro⟨l,⟨l1,l2,rfl,⟨hp,rfl⟩,h2⟩,hn,hh⟩;exact⟨hp,l2,h2,hn,hh⟩
 ·rintro⟨hp,l,h2,hn,hh⟩;exact⟨l,⟨[],l,rfl,⟨hp,rfl⟩,h2⟩,hn,hh⟩
theorem b0M {w:World} {M L:List a0E} :Sat w (b0E M::L)↔Sat w (M++L):=by
 constructor
 ·rintro⟨l,⟨a,b,rfl,c,d⟩,hn,hh⟩;exact⟨a++b,w0H.2 ⟨a,b,rfl,c,d⟩,hn,hh⟩
 ·rintro⟨l,h,hn,hh⟩;obtain⟨a,b,rfl,c,d⟩:=w0H.1 h;exact⟨a++b,⟨a,b,rfl,c,d⟩,hn,hh⟩
theorem Sat.pts {w:World} {b:Nat} {o:Obj} {L:List a0E} (h:Sat w (pts b o::L)):w.heap[b]? =some o:=by
 obtain⟨l,⟨e,f,rfl,rfl,c⟩,d,a⟩:=h;exact a b o (by simp)
theorem Sat.nil (w:World):Sat w []:=⟨[],rfl,by simp,by simp⟩
structure d0S (w w':World):Prop where
 os:w'.os=w.os
 tape:w'.tape=w.tape
 output:w'.output=w.output
theorem d0S.refl (w:World):d0S w w:=⟨rfl,rfl,rfl⟩
theorem d0S.trans {a b c:World} (h:d0S a b) (k:d0S b c):d0S a c:=⟨k.os.trans h.os,k.tape.trans h.tape,k.output.trans h.output⟩
theorem d0S.drew {a b:World} (h:d0S a b):d0S a b.drew:=h.trans ⟨rfl,rfl,rfl⟩
theorem d0S.alloc {a b:World} (h:d0S a b) (o:Obj):d0S a (b.alloc o):=h.trans ⟨rfl,rfl,rfl⟩
def put (w:World) (b:Nat) (o:Obj):World:= {w with heap:=w.heap.setIfInBounds b o}
theorem d0S.put {a b:World} (h:d0S a b) (k:Nat) (o:Obj):d0S a (Sl.put b k o):=h.trans ⟨rfl,rfl,rfl⟩
theorem r0F {w:World} {b:Nat} {o:Obj} (h:w.heap[b]? =some o):b<w.heap.size:=by
 rcases Nat.lt_or_ge b w.heap.size with a|a
 ·exact a
 ·rw[Array.getElem?_eq_none a]at h;cases h
theorem Sat.put {w:World} {b:Nat} {o o':Obj} {L:List a0E} (h:Sat w (Sl.pts b o::L)):Sat (Sl.put w b o') (Sl.pts b o'::L):=by
 have hb:=r0F h.pts;obtain⟨l,⟨j,f,rfl,rfl,g⟩,c,i⟩:=h;simp only[List.cons_append,List.nil_append,List.map_cons,List.nodup_cons]at c;refine⟨(b,o')::f,⟨[(b,o')],f,rfl,rfl,g⟩,by simpa using c,?_⟩;intro k x a;rcases List.mem_cons.1 a with e|a
 ·simp only[Prod.mk.injEq]at e;obtain⟨rfl,rfl⟩:=e;simp[Sl.put,hb]
 ·have d:k≠b:=fun e=>c.1 (List.mem_map.2 ⟨(k,x),a,by simp[e]⟩);have:=i k x (List.mem_append_right _ a);simp only[Sl.put,Array.getElem?_setIfInBounds];rw[if_neg (Ne.symm d)];exact this
theorem Sat.alloc {w:World} {L:List a0E} (h:Sat w L) (o:Obj):Sat (w.alloc o) (Sl.pts w.heap.size o::L):=by
 obtain⟨l,f,i,d⟩:=h;have c: ∀b x,(b,x)∈l→b<w.heap.size:=fun b x hb=>r0F (d b x hb);refine⟨(w.heap.size,o)::l,⟨[(w.heap.size,o)],l,rfl,rfl,f⟩,?_,?_⟩
 ·simp only[List.map_cons,List.nodup_cons];refine⟨?_,i⟩;rintro g;obtain⟨⟨k,x⟩,a,e⟩:=List.mem_map.1 g;have:=c k x a;simp at e;omega
 ·intro k x a;rcases List.mem_cons.1 a with e|a
  ·simp only[Prod.mk.injEq]at e;obtain⟨rfl,rfl⟩:=e;show(w.heap.push _)[w.heap.size]? =some _;simp
  ·have:=c k x a;show(w.heap.push o)[k]? =some x;rw[Array.getElem?_push,if_neg (by omega)];exact d k x a
theorem Sat.heap {w a:World} {L:List a0E} (h:Sat w L) (e:a.heap=w.heap):Sat a L:=by
 obtain⟨l,c,f,d⟩:=h;exact⟨l,c,f,fun b o hb=>by rw[e];exact d b o hb⟩
theorem Sat.drew {w:World} {L:List a0E} (h:Sat w L):Sat w.drew L:=h.heap rfl
def whole (w:World):a0E:=fun l=>l=(List.range w.heap.size).map fun b=>(b,w.heap[b]!)
theorem i2F (w:World):Sat w [whole w]:=by
 refine⟨(List.range w.heap.size).map fun b=>(b,w.heap[b]!),⟨_,[],by simp,rfl,rfl⟩,?_,?_⟩
 ·simp only[List.map_map];have:((fun x:Nat×Obj=>x.1) ∘ fun b=>(b,w.heap[b]!))=id:=rfl;rw[this,List.map_id];exact List.nodup_range
 ·intro b o hb;obtain⟨k,a,e⟩:=List.mem_map.1 hb;simp only[Prod.mk.injEq]at e;obtain⟨rfl,rfl⟩:=e;have:=List.mem_range.1 a;simp[this]
theorem Sat.whole_block {w b:World} {L:List a0E} (h:Sat b (whole w::L)) (k:Nat) (a:k<w.heap.size):b.heap[k]? =w.heap[k]? :=by
 obtain⟨l,⟨f,g,rfl,rfl,d⟩,e,c⟩:=h;have:=c k (w.heap[k]!) (List.mem_append_left _ (List.mem_map.2 ⟨k,List.mem_range.2 a,rfl⟩));rw[this];simp[a]
section
def c0E:List (Nat×Value)→Nat→Option Value
 | [],_=>none
 | (k,v)::e,t=>match Nat.beq k t with|true=>some v|false=>c0E e t
def nth {α:Type} :List α→Nat→Option α
 | [],_=>none
 |x::_,0=>some x
 |_::l,n+1=>nth l n
theorem e0F {α:Type} : ∀(l:List α) (n:Nat),nth l n=l[n]?
 | [],n=>by simp[nth]
 |x::l,0=>by simp[nth]
 |x::l,n+1=>by simp[nth,e0F l n]
structure Cx where
 P:Program
 n:Nat
 ds:List Deferred
 w0:World
structure b0J (c:Cx) (env:List (Nat×Value)) (L:List a0E) (a:Act) (w:World):Prop where
 size:a.tmps.size=c.n
 slots: ∀t v,c0E env t=some v→a.tmps[t]? =some v
 defers:a.defers=c.ds
 sat:Sat w L
 like:d0S c.w0 w
def evo (env:List (Nat×Value)):Operand→Option Value
 | .tmp t=>c0E env t
 | .const v=>some v
 | .global g=>some (.pointer (some ⟨g,0,none⟩))
 | .func f=>some (.func (.func f) #[] #[])
theorem b0J.eval {c:Cx} {env L a w} (h:b0J c env L a w) {x:Operand} {v:Value} (b:evo env x=some v):a.eval x=v:=by
 cases x with
 |tmp t=>have:=h.slots t v b;simp[Act.eval,this]
 |const u=>simpa [evo,Act.eval] using b
 |global g=>simpa [evo,Act.eval] using b
 |func f=>simpa [evo,Act.eval] using b
theorem b0J.put {c:Cx} {env L a w} (h:b0J c env L a w) (d:Nat) (v:Value) (hd:Nat.blt d c.n=true):b0J c ((d,v)::env) L (a.put (some d) v) w:=by
 have e:d<c.n:=Nat.blt_eq▸hd;refine⟨by simp[Act.put,h.size],?_,h.defers,h.sat,h.like⟩;intro t u b;simp only[c0E]at b;cases hb:Nat.beq d t with
 |true=>
  rw[hb]at b;have:d=t:=Nat.eq_of_beq_eq_true hb;subst this;simp only[Option.some.injEq]at b;subst b;simp[Act.put,h.size,e]
 |false=>
  rw[hb]at b;have f:d≠t:=Nat.ne_of_beq_eq_false hb;simp only[Act.put,Array.getElem?_setIfInBounds];rw[if_neg f];exact h.slots t u b
theorem b0J.none {c:Cx} {env L a w} (h:b0J c env L a w) (v:Value):b0J c env L (a.put none v) w:=h
theorem b0J.drew {c:Cx} {env L a w} (h:b0J c env L a w):b0J c env L a w.drew:=⟨h.size,h.slots,h.defers,h.sat.drew,h.like.drew⟩
def a0P (c:Cx) (o:Oper) (env:List (Nat×Value)) (L:List a0E) (v:Value):Prop:=
 ∀a w,b0J c env L a w→(execOp a.eval o).run c.P w= .ok (.value v) w
def Fnd (L:List a0E) (A:a0E) (M:List a0E):Prop:=L.Perm (A::M)
theorem Fnd.here {A:a0E} {L:List a0E} :Fnd (A::L) A L:=List.Perm.refl _
theorem Fnd.there {A B:a0E} {L M:List a0E} (h:Fnd L A M):Fnd (B::L) A (B::M):=(List.Perm.cons B h).trans (List.Perm.swap A B M)
theorem Fnd.sat {L M:List a0E} {A:a0E} {w:World} (h:Fnd L A M) (a:Sat w L):Sat w (A::M):=a.perm h
class o0G (L:List a0E) (b:Nat) (o:outParam Obj) (M:outParam (List a0E)):Prop where
 out:L.Perm (pts b o::M)
instance (priority:=high) o0G.here {b:Nat} {o:Obj} {L:List a0E} :o0G (pts b o::L) b o L:=⟨List.Perm.refl _⟩
instance o0G.there {A:a0E} {b:Nat} {o:Obj} {L M:List a0E} [h:o0G L b o M]:o0G (A::L) b o (A::M):=⟨(List.Perm.cons A h.out).trans (List.Perm.swap _ A M)⟩
theorem o0G.sat {L M:List a0E} {b:Nat} {o:Obj} {w:World} (h:o0G L b o M) (a:Sat w L):Sat w (pts b o::M):=a.perm h.out
def b0A (L M F:List a0E):Prop:=L.Perm (M++F)
theorem b0A.nil {L:List a0E} :b0A L [] L:=List.Perm.refl _
theorem b0A.cons {L a M F:List a0E} {A:a0E} (h:Fnd L A a) (k:b0A a M F):b0A L (A::M) F:=h.trans (List.Perm.cons A k)
def f0Q (P:Program) (t:TypeId):Bool:=match P.underlying t with|some (.struct _)|some (.array _ _)|none=>false|some _=>true
def h0D (P:Program) (e:TypeId):Option Value:=match P.info? e with|some i=>i.zero|none=>none
def x0O (P:Program) (t:TypeId) (n:Nat):Bool:=match P.info? t with|some i=>i.size == n|none=>false
def o0N (P:Program) (t:TypeId) (n:Nat):Bool:=(match P.underlying t with|some (.struct _)|some (.array _ _)=>true|_=>false)&&(match P.info? t with|some i=>i.size == n|none=>false)
def n1K (P:Program) (s f k:Nat):Bool:=match P.underlying s with
 |some (.struct fs)=>(match fs[f]? with
  |some fd=>fd.offset == k&&(match P.info? fd.type with|some i=>i.size !=0|none=>false)
  |none=>false)
 |_=>false
def c0X (P:Program) (t e n:Nat):Bool:=(match P.underlying t with|some (.slice x)=>x == e|_=>false)&&(match P.info? e with|some i=>i.size == n|none=>false)
def k0Y (P:Program) (t len e n:Nat):Bool:=(match P.underlying t with|some (.array l x)=>l == len&&x == e|_=>false)&&(match P.info? e with|some i=>i.size == n|none=>false)
def y0U (P:Program) (t:TypeId) (k:IntKind):Bool:=match P.underlying t with|some (.int j)=>j == k|_=>false
def g0D (P:Program) (t:TypeId):Bool:=match P.underlying t with|some .string=>true|_=>false
def q0I (P:Program) (t k e:TypeId):Bool:=match P.underlying t with|some (.map a b)=>a == k&&b == e|_=>false
theorem k0Z {P:Program} {t:TypeId} (h:f0Q P t=true) (w:World):(isAgg t).run P w= .ok false w:=by
 unfold f0Q at h;unfold isAgg;cases hu:P.underlying t with
 |none=>rw[hu]at h;simp at h
 |some d=>rw[hu]at h;rw[Sem.run_bind,run_underlying hu w];cases d<;>simp_all
theorem j0A {P:Program} {t:TypeId} {n:Nat} (h:o0N P t n=true) (w:World):(isAgg t).run P w= .ok true w:=by
 unfold o0N at h;unfold isAgg;cases hu:P.underlying t with
 |none=>rw[hu]at h;simp at h
 |some d=>rw[hu]at h;rw[Sem.run_bind,run_underlying hu w];cases d<;>simp_all
theorem j0H {P:Program} {t:TypeId} {n:Nat} (h:o0N P t n=true) (w:World):(sizeOf t).run P w= .ok n w:=by
 unfold o0N at h;unfold sizeOf typeInfo;cases hi:P.info? t with
 |none=>rw[hi]at h;simp at h
 |some i=>rw[hi]at h;simp at h;simp[hi,h.2]
section
variable {c:Cx} {env:List (Nat×Value)} {L:List a0E} {d:Option Tmp} {ty:TypeId} {pos:String} {af:Array Edge} {g:Option (Nat×Bool)}
theorem d0H {x:Operand} {v:Value} (b:evo env x=some v):a0P c ⟨d,.move x,ty,pos,af,g⟩ env L v:=by
 intro a w h;simp[execOp,h.eval b]
theorem s1K {x:Operand} {v:Value} (b:evo env x=some v):a0P c ⟨d,.assign x,ty,pos,af,g⟩ env L v:=by
 intro a w h;simp[execOp,h.eval b]
theorem s1A {x:Operand} {p:Addr} (b:evo env x=some (.pointer (some p))):a0P c ⟨d,.nilCheck x,ty,pos,af,g⟩ env L (.pointer (some p)):=by
 intro a w h;simp[execOp,h.eval b]
theorem j0C (b o k:Nat):(⟨b,o,none⟩:Addr).add k=⟨b,o+k,none⟩:=Addr.add_lit b o k
theorem k1N {s:TypeId} {x:Operand} {f b o k:Nat} (e:n1K c.P s f k=true) (n:evo env x=some (.pointer (some ⟨b,o,none⟩))):
 a0P c ⟨d,.fieldAddr s x f,ty,pos,af,g⟩ env L (.pointer (some ⟨b,o+k,none⟩)):=by
 intro a w h;unfold n1K at e;split at e
 ·rename_i q hu;split at e
  ·rename_i p j;simp only[Bool.and_eq_true,beq_iff_eq]at e;obtain⟨rfl,l⟩:=e;split at l
   ·rename_i i hi;have m:i.size≠0:=by simpa using l
    simp[execOp,h.eval n,Instr.fieldAt,run_underlying hu,j,Instr.sureAddr,fieldPlace,sizeOf,typeInfo,hi,m,j0C]
   ·cases l
  ·cases e
 ·cases e
theorem b0N {x:Operand} {t:TypeId} {b o:Nat} {cs:List Value} {e:TypeId} {fr:Nat×Nat} {M:List a0E} {v:Value}
 (k:f0Q c.P t=true) (l:evo env x=some (.pointer (some ⟨b,o,none⟩))) [hL:o0G L b (.cells cs.toArray e fr) M] (f:nth cs o=some v):
 a0P c ⟨d,.load t x,ty,pos,af,g⟩ env L v:=by
 intro a w h;have j:=(hL.sat h.sat).pts;have i:w.cell? ⟨b,o,none⟩=some v:=by rw[e0F]at f;simp[World.cell?,j,f]
 simp[execOp,h.eval l,Instr.loadAt,Instr.sureAddr,loadVar,k0Z k,i]
theorem g0U {P:Program} {w:World} {b o n:Nat} {cs:Array Value} {e:TypeId} {fr:Nat×Nat} (d:w.heap[b]? =some (.cells cs e fr)) (g:o+n≤cs.size):
 (loadCells ⟨b,o,none⟩ n).run P w= .ok (cs.extract o (o+n)) w:=by
 rw[run_loadCells (P:=P) w ⟨b,o,none⟩ n (fun j=>cs.getD (o+j) undef)]
 ·congr 1;apply Array.ext
  ·simp;omega
  ·intro i a c;simp at a c ⊢;rw[Array.getElem?_eq_getElem (by omega)];rfl
 ·intro j f;rw[j0C];simp[World.cell?,d];rw[Array.getElem?_eq_getElem (by omega)];rfl
theorem a0K {x:Operand} {t:TypeId} {b o n:Nat} {cs:Array Value} {e:TypeId} {fr:Nat×Nat} {M:List a0E} {v:Array Value}
 (f:o0N c.P t n=true) (l:evo env x=some (.pointer (some ⟨b,o,none⟩))) [hL:o0G L b (.cells cs e fr) M] (j:o+n≤cs.size) (k:cs.extract o (o+n)=v):
 a0P c ⟨d,.load t x,ty,pos,af,g⟩ env L (.agg v):=by
 intro a w h;have i:=(hL.sat h.sat).pts;subst k;simp[execOp,h.eval l,Instr.loadAt,Instr.sureAddr,loadVar,j0A f,j0H f,g0U i j]
theorem g1D {x y:Operand} {t yt:TypeId} {k:IntKind} {m n:Int} (b:evo env x=some (.int k m)) (e:evo env y=some (.int k n)):
 a0P c ⟨d,.binOp .add t x y yt,ty,pos,af,g⟩ env L (.int k (k.wrap (m+n))):=by
 intro a w h;simp[execOp,h.eval b,h.eval e,eqGuard_add,binOp_add,Op.intArith]
theorem k1O {x y:Operand} {t yt:TypeId} {k:IntKind} {m n:Int} (b:evo env x=some (.int k m)) (e:evo env y=some (.int k n)):
 a0P c ⟨d,.binOp .sub t x y yt,ty,pos,af,g⟩ env L (.int k (k.wrap (m-n))):=by
 intro a w h;simp[execOp,h.eval b,h.eval e,eqGuard_sub,binOp_sub,Op.intArith]
theorem s2F {x y:Operand} {t yt:TypeId} {k:IntKind} {m n:Int} (b:evo env x=some (.int k m)) (e:evo env y=some (.int k n)):
 a0P c ⟨d,.binOp .mul t x y yt,ty,pos,af,g⟩ env L (.int k (k.wrap (m*n))):=by
 intro a w h;simp[execOp,h.eval b,h.eval e,eqGuard_mul,binOp_mul,Op.intArith]
theorem s1L {x y:Operand} {t yt:TypeId} {m n:Int} (a:evo env x=some (.int .i64 m)) (b:evo env y=some (.int .i64 n)) (hb: -9223372036854775808≤m+n∧m+n≤9223372036854775807):
 a0P c ⟨d,.binOp .add t x y yt,ty,pos,af,g⟩ env L (.int .i64 (m+n)):=by
 have:=g1D (c:=c) (L:=L) (d:=d) (t:=t) (yt:=yt) (ty:=ty) (pos:=pos) (af:=af) (g:=g) a b
 rwa [IntWalk.i64_in _ hb]at this
theorem w2V {x y:Operand} {t yt:TypeId} {m n:Int} (a:evo env x=some (.int .i64 m)) (b:evo env y=some (.int .i64 n)) (hb: -9223372036854775808≤m-n∧m-n≤9223372036854775807):
 a0P c ⟨d,.binOp .sub t x y yt,ty,pos,af,g⟩ env L (.int .i64 (m-n)):=by
 have:=k1O (c:=c) (L:=L) (d:=d) (t:=t) (yt:=yt) (ty:=ty) (pos:=pos) (af:=af) (g:=g) a b
 rwa [IntWalk.i64_in _ hb]at this
theorem w2W {x y:Operand} {t yt:TypeId} {m n:Int} (a:evo env x=some (.int .i64 m)) (b:evo env y=some (.int .i64 n)) (hb: -9223372036854775808≤m*n∧m*n≤9223372036854775807):
 a0P c ⟨d,.binOp .mul t x y yt,ty,pos,af,g⟩ env L (.int .i64 (m*n)):=by
 have:=s2F (c:=c) (L:=L) (d:=d) (t:=t) (yt:=yt) (ty:=ty) (pos:=pos) (af:=af) (g:=g) a b
 rwa [IntWalk.i64_in _ hb]at this
theorem z2E {x y:Operand} {t yt:TypeId} {k:IntKind} {m n:Int} (e:evo env x=some (.int k m)) (f:evo env y=some (.int k n)) (b:n≠0):
 a0P c ⟨d,.binOp .quo t x y yt,ty,pos,af,g⟩ env L (.int k (k.wrap (m.tdiv n))):=by
 intro a w h;simp[execOp,h.eval e,h.eval f,eqGuard_quo,binOp_quo,Op.intDiv,b]
theorem z2F {x y:Operand} {t yt:TypeId} {k:IntKind} {m n:Int} (e:evo env x=some (.int k m)) (f:evo env y=some (.int k n)) (b:n≠0):
 a0P c ⟨d,.binOp .rem t x y yt,ty,pos,af,g⟩ env L (.int k (m.tmod n)):=by
 intro a w h;simp[execOp,h.eval e,h.eval f,eqGuard_rem,binOp_rem,Op.intDiv,b]
theorem w2X {x y:Operand} {t yt:TypeId} {m n:Int} (a:evo env x=some (.int .i64 m)) (b:evo env y=some (.int .i64 n)) (hb:0≤m∧m≤9223372036854775807∧1≤n):
 a0P c ⟨d,.binOp .quo t x y yt,ty,pos,af,g⟩ env L (.int .i64 (m/n)):=by
 have:=z2E (c:=c) (L:=L) (d:=d) (t:=t) (yt:=yt) (ty:=ty) (pos:=pos) (af:=af) (g:=g) a b (by omega)
 rwa [IntWalk.i64_quo _ _ hb]at this
theorem k1P {x y:Operand} {t yt:TypeId} {k:IntKind} {m n:Int} (a:evo env x=some (.int k m)) (b:evo env y=some (.int k n)) (hb:0≤m∧n≠0):
 a0P c ⟨d,.binOp .rem t x y yt,ty,pos,af,g⟩ env L (.int k (m%n)):=by
 have:=z2F (c:=c) (L:=L) (d:=d) (t:=t) (yt:=yt) (ty:=ty) (pos:=pos) (af:=af) (g:=g) a b hb.2
 rwa [IntWalk.rem_in _ _ hb.1]at this
theorem o0O {x y:Operand} {t yt:TypeId} {k:IntKind} {m n:Int} (b:evo env x=some (.int k m)) (e:evo env y=some (.int k n)):
 a0P c ⟨d,.binOp .and t x y yt,ty,pos,af,g⟩ env L (.int k (bits .and k m n)):=by
 intro a w h;simp[execOp,h.eval b,h.eval e,eqGuard_and,binOp_and,intBits_and]
theorem n2N {x y:Operand} {t yt:TypeId} {k:IntKind} {m n:Int} (b:evo env x=some (.int k m)) (e:evo env y=some (.int k n)):
 a0P c ⟨d,.binOp .or t x y yt,ty,pos,af,g⟩ env L (.int k (bits .or k m n)):=by
 intro a w h;simp[execOp,h.eval b,h.eval e,eqGuard_or,binOp_or,intBits_or]
theorem w0I {x y:Operand} {t yt:TypeId} {k:IntKind} {m n:Int} (b:evo env x=some (.int k m)) (e:evo env y=some (.int k n)):
 a0P c ⟨d,.binOp .xor t x y yt,ty,pos,af,g⟩ env L (.int k (bits .xor k m n)):=by
 intro a w h;simp[execOp,h.eval b,h.eval e,eqGuard_xor,binOp_xor,intBits_xor]
theorem t0B {x y:Operand} {t yt:TypeId} {k j:IntKind} {m n:Int} (b:evo env x=some (.int k m)) (e:evo env y=some (.int j n)) (hb:0≤n∧n≤k.bits):
 a0P c ⟨d,.binOp .shr t x y yt,ty,pos,af,g⟩ env L (.int k (m/2^n.toNat)):=by
 intro a w h;simp[execOp,h.eval b,h.eval e,eqGuard_shr,binOp_shr,shift_shr k j m n hb.1 hb.2]
theorem g1E {x y:Operand} {t yt:TypeId} {k j:IntKind} {m n:Int} (b:evo env x=some (.int k m)) (e:evo env y=some (.int j n)) (hb:0≤n∧n≤k.bits):
 a0P c ⟨d,.binOp .shl t x y yt,ty,pos,af,g⟩ env L (.int k (k.wrap (m*2^n.toNat))):=by
 intro a w h;simp[execOp,h.eval b,h.eval e,eqGuard_shl,binOp_shl,shift_shl k j m n hb.1 hb.2]
theorem b1F {x y:Operand} {t yt:TypeId} {k:IntKind} {m n:Int} (b:evo env x=some (.int k m)) (e:evo env y=some (.int k n)):
 a0P c ⟨d,.binOp .eql t x y yt,ty,pos,af,g⟩ env L (.bool (m == n)):=by
 intro a w h;simp[execOp,h.eval b,h.eval e,eqGuard_at_int,binOp_eql]
theorem s2G {x y:Operand} {t yt:TypeId} {k:IntKind} {m n:Int} (b:evo env x=some (.int k m)) (e:evo env y=some (.int k n)):
 a0P c ⟨d,.binOp .neq t x y yt,ty,pos,af,g⟩ env L (.bool (m !=n)):=by
 intro a w h;simp[execOp,h.eval b,h.eval e,eqGuard_at_int,binOp_neq]
theorem s2H {x y:Operand} {t yt:TypeId} {k:IntKind} {m n:Int} (b:evo env x=some (.int k m)) (e:evo env y=some (.int k n)):
 a0P c ⟨d,.binOp .lss t x y yt,ty,pos,af,g⟩ env L (.bool (decide (m<n))):=by
 intro a w h;simp[execOp,h.eval b,h.eval e,eqGuard_lss,binOp_lss]
theorem z2G {x y:Operand} {t yt:TypeId} {k:IntKind} {m n:Int} (b:evo env x=some (.int k m)) (e:evo env y=some (.int k n)):
 a0P c ⟨d,.binOp .leq t x y yt,ty,pos,af,g⟩ env L (.bool (decide (m≤n))):=by
 intro a w h;simp[execOp,h.eval b,h.eval e,eqGuard_leq,binOp_leq]
theorem k1Q {x y:Operand} {t yt:TypeId} {k:IntKind} {m n:Int} (b:evo env x=some (.int k m)) (e:evo env y=some (.int k n)):
 a0P c ⟨d,.binOp .gtr t x y yt,ty,pos,af,g⟩ env L (.bool (decide (n<m))):=by
 intro a w h;simp[execOp,h.eval b,h.eval e,eqGuard_gtr,binOp_gtr]
theorem z2H {x y:Operand} {t yt:TypeId} {k:IntKind} {m n:Int} (b:evo env x=some (.int k m)) (e:evo env y=some (.int k n)):
 a0P c ⟨d,.binOp .geq t x y yt,ty,pos,af,g⟩ env L (.bool (decide (n≤m))):=by
 intro a w h;simp[execOp,h.eval b,h.eval e,eqGuard_geq,binOp_geq]
theorem v0A {x:Operand} {t:TypeId} {b:Bool} (e:evo env x=some (.bool b)):a0P c ⟨d,.unOp .not t x,ty,pos,af,g⟩ env L (.bool (!b)):=by
 intro a w h;simp[execOp,h.eval e,Op.unary]
theorem z2I {x:Operand} {t:TypeId} {k:IntKind} {m:Int} (b:evo env x=some (.int k m)):a0P c ⟨d,.unOp .neg t x,ty,pos,af,g⟩ env L (.int k (k.wrap (0-m))):=by
 intro a w h;simp[execOp,h.eval b,Op.unary,Op.intArith]
theorem d2K {x:Operand} {t:TypeId} {k:IntKind} {m:Int} (b:evo env x=some (.int k m)):a0P c ⟨d,.unOp .xor t x,ty,pos,af,g⟩ env L (.int k (bits .xor k (if k.signed then -1 else k.max) m)):=by
 intro a w h;simp[execOp,h.eval b,Op.unary,intBits_xor]
theorem h0V {x y z:Operand} {b:Bool} {u:Value} (e:evo env x=some (.bool b)) (hb:b=true) (f:evo env y=some u):
 a0P c ⟨d,.pick x y z,ty,pos,af,g⟩ env L u:=by
 intro a w h;simp[execOp,h.eval e,h.eval f,hb,asBool]
theorem h0H {x y z:Operand} {b:Bool} {v:Value} (e:evo env x=some (.bool b)) (hb:b=false) (f:evo env z=some v):
 a0P c ⟨d,.pick x y z,ty,pos,af,g⟩ env L v:=by
 intro a w h;simp[execOp,h.eval e,h.eval f,hb,asBool]
theorem k1R {x:Operand} {s t:TypeId} {k j:IntKind} {m:Int} (f:(c.P.underlying s).isSome=true) (b:y0U c.P t j=true) (i:evo env x=some (.int k m)):
 a0P c ⟨d,.convert s t x,ty,pos,af,g⟩ env L (.int j (j.wrap m)):=by
 intro a w h;unfold y0U at b;split at b
 ·rename_i l e;simp at b;subst b;obtain⟨dd,hd⟩:=Option.isSome_iff_exists.1 f;simp[execOp,h.eval i,convert,run_underlying hd,run_underlying e,Conv.intToInt]
 ·cases b
end
end
end Go.Sl
namespace Go.Sl
open Go.BigFrame
section
section
variable {c:Cx} {env:List (Nat×Value)} {L:List a0E} {d:Option Tmp} {ty:TypeId} {pos:String} {af:Array Edge} {g:Option (Nat×Bool)}
theorem run_equalIn_bool {P:Program} {t:TypeId} (hu:P.underlying t=some .bool) (k:Nat) (p q:Bool) (w:World):(Op.equalIn (k+1) t (.bool p) (.bool q)).run P w= .ok (p == q) w:=by
 simp[Op.equalIn,run_underlying hu]
theorem s0O {x y:Operand} {t yt:TypeId} {p q:ByteArray} (b:evo env x=some (.string p)) (e:evo env y=some (.string q)):
 a0P c ⟨d,.binOp .eql t x y yt,ty,pos,af,g⟩ env L (.bool (p.toList == q.toList)):=by
 intro a w h;simp[execOp,h.eval b,h.eval e,eqGuard_at_string,binOp,Op.stringOp]
theorem i0M {x y:Operand} {t yt:TypeId} {p q:ByteArray} (b:evo env x=some (.string p)) (e:evo env y=some (.string q)):
 a0P c ⟨d,.binOp .neq t x y yt,ty,pos,af,g⟩ env L (.bool (!(p.toList == q.toList))):=by
 intro a w h;simp[execOp,h.eval b,h.eval e,eqGuard_at_string,binOp,Op.stringOp]
theorem h0N {x y:Operand} {t yt:TypeId} {p q:ByteArray} (b:evo env x=some (.string p)) (e:evo env y=some (.string q)) (f:p.size+q.size≤9223372036854775807):
 a0P c ⟨d,.binOp .add t x y yt,ty,pos,af,g⟩ env L (.string (p++q)):=by
 intro a w h;have: ¬((p.size+q.size:Nat):Int)>IntKind.i64.max:=by rw[IntKind.max_i64];omega
 simp only[execOp,h.eval b,h.eval e,eqGuard_add,binOp,Op.stringOp,if_neg this];rfl
theorem i2G {t:TypeId} {x:Operand} {s:ByteArray} (b:g0D c.P t=true) (e:evo env x=some (.string s)):
 a0P c ⟨d,.call {callee:= .builtin .len,args:= #[x],argTypes:= #[t]},ty,pos,af,g⟩ env L (.int .i64 s.size):=by
 intro a w h;unfold g0D at b;split at b
 ·rename_i hu;rw[execOp_builtin,builtin_len];simp[h.eval e,Builtin.len_,run_underlying hu,goInt]
 ·cases b
theorem r0Z {t e n:TypeId} {x:Operand} {p:Option Addr} {l cap:Nat} (b:c0X c.P t e n=true) (f:evo env x=some (.slice p l cap)):
 a0P c ⟨d,.call {callee:= .builtin .len,args:= #[x],argTypes:= #[t]},ty,pos,af,g⟩ env L (.int .i64 l):=by
 intro a w h;unfold c0X at b;split at b
 ·rename_i y hu;rw[execOp_builtin,builtin_len];simp[h.eval f,Builtin.len_,run_underlying hu,goInt]
 ·simp at b
theorem z2J {f:Array TypeId} {x y:Operand} {k:IntKind} {m n:Int} (b:evo env x=some (.int k m)) (e:evo env y=some (.int k n)):
 a0P c ⟨d,.call {callee:= .builtin .max,args:= #[x,y],argTypes:=f},ty,pos,af,g⟩ env L (.int k (max m n)):=by
 intro a w h;rw[execOp_builtin,builtin_max];simp[h.eval b,h.eval e,Builtin.max_,Builtin.max2];omega
theorem z2K {f:Array TypeId} {x y:Operand} {k:IntKind} {m n:Int} (b:evo env x=some (.int k m)) (e:evo env y=some (.int k n)):
 a0P c ⟨d,.call {callee:= .builtin .min,args:= #[x,y],argTypes:=f},ty,pos,af,g⟩ env L (.int k (min m n)):=by
 intro a w h;rw[execOp_builtin,builtin_min];simp[h.eval b,h.eval e,Builtin.min_,Builtin.min2];omega
theorem z2L {t e n:TypeId} {x y:Operand} {b o l cap:Nat} {k:IntKind} {i:Int} (p:c0X c.P t e n=true) (r:evo env x=some (.slice (some ⟨b,o,none⟩) l cap)) (s:evo env y=some (.int k i)) (hi:0≤i∧i<l):
 a0P c ⟨d,.indexAddr t x y,ty,pos,af,g⟩ env L (.pointer (some ⟨b,o+i.toNat*n,none⟩)):=by
 intro a w h;simp only[c0X,Bool.and_eq_true]at p;obtain⟨j,m⟩:=p;split at j
 ·rename_i z hu;simp at j;subst j;split at m
  ·rename_i q f;simp at m;subst m;simp[execOp,h.eval r,h.eval s,Instr.indexAt,run_underlying hu,asIntOf,hi.1,hi.2,sizeOf,typeInfo,f,j0C]
  ·cases m
 ·cases j
theorem k1S {t:TypeId} {len e n:Nat} {x y:Operand} {b o:Nat} {k:IntKind} {i:Int} (p:k0Y c.P t len e n=true) (r:evo env x=some (.pointer (some ⟨b,o,none⟩))) (s:evo env y=some (.int k i)) (hi:0≤i∧i<len):
 a0P c ⟨d,.indexAddr t x y,ty,pos,af,g⟩ env L (.pointer (some ⟨b,o+i.toNat*n,none⟩)):=by
 intro a w h;simp only[k0Y,Bool.and_eq_true]at p;obtain⟨j,m⟩:=p;split at j
 ·rename_i l z hu;simp at j;obtain⟨rfl,rfl⟩:=j;split at m
  ·rename_i q f;simp at m;subst m;simp[execOp,h.eval r,h.eval s,Instr.indexAt,run_underlying hu,Instr.sureAddr,asIntOf,hi.1,hi.2,sizeOf,typeInfo,f,j0C]
  ·cases m
 ·cases j
theorem d1U {t:TypeId} {x y:Operand} {s:ByteArray} {k:IntKind} {i:Int} {u:UInt8} (b:g0D c.P t=true) (f:evo env x=some (.string s)) (j:evo env y=some (.int k i)) (hi:0≤i) (hu:s.data.toList[i.toNat]? =some u):
 a0P c ⟨d,.index t x y,ty,pos,af,g⟩ env L (.int .u8 u.toNat):=by
 intro a w h;unfold g0D at b;split at b
 ·rename_i e;have:s[i.toNat]? =some u:=by
   rw[Array.getElem?_toList]at hu;exact hu
  simp[execOp,h.eval f,h.eval j,Instr.index,run_underlying e,asIntOf,hi,this]
 ·cases b
theorem d2L {x:Operand} {vs:List Value} {i:Nat} {v:Value} (e:evo env x=some (.tuple vs.toArray)) (b:nth vs i=some v):a0P c ⟨d,.extract x i,ty,pos,af,g⟩ env L v:=by
 intro a w h;rw[e0F]at b;simp[execOp,h.eval e,Instr.extract,b]
def n0R (P:Program) (s f k n:Nat) (agg:Bool):Bool:=match P.underlying s with
 |some (.struct fs)=>(match fs[f]? with
  |some fd=>fd.offset == k&&(if agg then o0N P fd.type n else f0Q P fd.type)
  |none=>false)
 |_=>false
theorem s2U {s:TypeId} {x:Operand} {f k n:Nat} {cs:List Value} {v:Value} (b:n0R c.P s f k n false=true) (l:evo env x=some (.agg cs.toArray)) (i:nth cs k=some v):
 a0P c ⟨d,.field s x f,ty,pos,af,g⟩ env L v:=by
 intro a w h;unfold n0R at b;split at b
 ·rename_i o hu;split at b
  ·rename_i m e;simp at b;obtain⟨rfl,j⟩:=b;rw[e0F]at i;simp[execOp,h.eval l,Instr.field,run_underlying hu,e,asAgg,part,k0Z j,i]
  ·cases b
 ·cases b
theorem n0S {s:TypeId} {x:Operand} {f k n:Nat} {cs v:Array Value} (b:n0R c.P s f k n true=true) (l:evo env x=some (.agg cs)) (j:cs.extract k (k+n)=v):
 a0P c ⟨d,.field s x f,ty,pos,af,g⟩ env L (.agg v):=by
 intro a w h;unfold n0R at b;split at b
 ·rename_i o hu;split at b
  ·rename_i m e;simp at b;obtain⟨rfl,i⟩:=b;subst j;simp[execOp,h.eval l,Instr.field,run_underlying hu,e,asAgg,part,j0A i,j0H i]
  ·cases b
 ·cases b
theorem o0P {t:TypeId} {len e:Nat} {x y:Operand} {cs:List Value} {k:IntKind} {i:Int} {v:Value} (m:k0Y c.P t len e 1=true) (p:f0Q c.P e=true) (q:evo env x=some (.agg cs.toArray)) (r:evo env y=some (.int k i)) (hi:0≤i∧i<len) (n:nth cs i.toNat=some v):
 a0P c ⟨d,.index t x y,ty,pos,af,g⟩ env L v:=by
 intro a w h;simp only[k0Y,Bool.and_eq_true]at m;obtain⟨f,j⟩:=m;split at f
 ·rename_i l z hu;simp at f;obtain⟨rfl,rfl⟩:=f;split at j
  ·rename_i o b;simp at j;rw[e0F]at n;simp[execOp,h.eval q,h.eval r,Instr.index,run_underlying hu,asIntOf,hi.1,hi.2,sizeOf,typeInfo,b,j,part,k0Z p,n]
  ·cases j
 ·cases f
theorem n2O {t:TypeId} {len e n:Nat} {x y:Operand} {cs:Array Value} {k:IntKind} {i:Int} {v:Array Value} (m:k0Y c.P t len e n=true) (p:o0N c.P e n=true) (r:evo env x=some (.agg cs)) (s:evo env y=some (.int k i)) (hi:0≤i∧i<len) (q:cs.extract (i.toNat*n) (i.toNat*n+n)=v):
 a0P c ⟨d,.index t x y,ty,pos,af,g⟩ env L (.agg v):=by
 intro a w h;simp only[k0Y,Bool.and_eq_true]at m;obtain⟨f,j⟩:=m;split at f
 ·rename_i l z hu;simp at f;obtain⟨rfl,rfl⟩:=f;split at j
  ·rename_i o b;simp at j;subst q;simp[execOp,h.eval r,h.eval s,Instr.index,run_underlying hu,asIntOf,hi.1,hi.2,sizeOf,typeInfo,b,j,part,j0A p]
  ·cases j
 ·cases f
theorem g1F {t:TypeId} {x l m:Operand} {s:ByteArray} {k j:IntKind} {lo hi:Int} (b:g0D c.P t=true) (o:evo env x=some (.string s)) (i:evo env l=some (.int k lo)) (f:evo env m=some (.int j hi)) (hb:0≤lo∧lo≤hi∧hi≤s.size):
 a0P c ⟨d,.slice t x (some l) (some m) none,ty,pos,af,g⟩ env L (.string (s.extract lo.toNat hi.toNat)):=by
 intro a w h;unfold g0D at b;split at b
 ·rename_i n;have e:0≤hi:=by omega
  simp[execOp,h.eval o,h.eval i,h.eval f,Instr.sliceAt,run_underlying n,Instr.slice,Instr.sliceBounds,Instr.sliceBound,asIntOf,hb.1,hb.2.2,e];intro p;omega
 ·cases b
theorem d1V {t:TypeId} {x l:Operand} {s:ByteArray} {k:IntKind} {lo:Int} (b:g0D c.P t=true) (i:evo env x=some (.string s)) (e:evo env l=some (.int k lo)) (hb:0≤lo∧lo≤s.size):
 a0P c ⟨d,.slice t x (some l) none none,ty,pos,af,g⟩ env L (.string (s.extract lo.toNat s.size)):=by
 intro a w h;unfold g0D at b;split at b
 ·rename_i f;simp[execOp,h.eval i,h.eval e,Instr.sliceAt,run_underlying f,Instr.slice,Instr.sliceBounds,Instr.sliceBound,asIntOf,hb.1,hb.2]
 ·cases b
theorem d1W {t:TypeId} {x m:Operand} {s:ByteArray} {j:IntKind} {hi:Int} (b:g0D c.P t=true) (i:evo env x=some (.string s)) (e:evo env m=some (.int j hi)) (hb:0≤hi∧hi≤s.size):
 a0P c ⟨d,.slice t x none (some m) none,ty,pos,af,g⟩ env L (.string (s.extract 0 hi.toNat)):=by
 intro a w h;unfold g0D at b;split at b
 ·rename_i f;simp[execOp,h.eval i,h.eval e,Instr.sliceAt,run_underlying f,Instr.slice,Instr.sliceBounds,Instr.sliceBound,asIntOf,hb.1,hb.2]
 ·cases b
theorem w2Y {fn:Fn} {xs ys:Array Operand} {f:FuncId} (e:fn= .func f) {vs us:Array Value} (n:xs.toList.mapM (evo env)=some vs.toList) (o:ys.toList.mapM (evo env)=some us.toList):
 a0P c ⟨d,.makeFunc fn xs ys,ty,pos,af,g⟩ env L (.func (.func f) vs us):=by
 intro a w h;subst e;have key: ∀(l:List Operand) (m:List Value),l.mapM (evo env)=some m→l.map a.eval=m:=by
  intro l
  induction l with
  |nil=>intro m b;simpa using b
  |cons x l ih=>
   intro m b;simp only[List.mapM_cons,Option.bind_eq_bind,Option.bind_eq_some_iff,Option.pure_def,Option.some.injEq]at b;obtain⟨v,p,q,i,rfl⟩:=b;simp[h.eval p,ih _ i]
 have j:xs.map a.eval=vs:=by apply Array.ext';rw[Array.toList_map];exact key _ _ n
 have k:ys.map a.eval=us:=by apply Array.ext';rw[Array.toList_map];exact key _ _ o
 simp[execOp,Instr.makeFunc,j,k]
theorem s2V {x:Operand} {t:TypeId} {v:Value} (b:(match c.P.underlying t with|some (.interface _)|none=>false|_=>true)=true) (e:evo env x=some v):
 a0P c ⟨d,.makeInterface t x,ty,pos,af,g⟩ env L (.iface t v):=by
 intro a w h;cases hu:c.P.underlying t with
 |none=>rw[hu]at b;cases b
 |some dd=>
  rw[hu]at b;simp only[execOp,Instr.makeInterface,Sem.run_bind,run_underlying hu,Result.andThen_ok,h.eval e];cases dd<;>simp_all
end
def g1G (P:Program) (t:TypeId):Bool:=match P.underlying t with|some (.pointer _)=>true|_=>false
theorem h1L {P:Program} {t:TypeId} (a:g1G P t=true) (p:Option Addr) (w:World):(Op.equal t (.pointer p) (.pointer none)).run P w= .ok p.isNone w:=by
 unfold g1G at a;split at a
 ·rename_i e hu;have b:Op.equal t (.pointer p) (.pointer none)=Op.equalIn (9999+1) t (.pointer p) (.pointer none):=rfl;have c: ∀k,(Op.equalIn (k+1) t (.pointer p) (.pointer none)).run P w= .ok p.isNone w:=by
   intro k;cases p<;>simp[Op.equalIn,run_underlying hu]
  rw[b];exact c 9999
 ·cases a
section
variable {c:Cx} {env:List (Nat×Value)} {L:List a0E} {d:Option Tmp} {ty:TypeId} {pos:String} {af:Array Edge} {g:Option (Nat×Bool)}
theorem d1X {x y:Operand} {t yt:TypeId} {p:Option Addr} (i:g1G c.P t=true) (j:evo env x=some (.pointer p)) (k:evo env y=some (.pointer none)):
 a0P c ⟨d,.binOp .neq t x y yt,ty,pos,af,g⟩ env L (.bool (!p.isNone)):=by
 intro a w h;have e:(binOp .neq t (.pointer p) (.pointer none)).run c.P w= .ok (.bool (!p.isNone)) w:=by
  have b:binOp .neq t (.pointer p) (.pointer none)=(do pure (.bool (!(←Op.equal t (.pointer p) (.pointer none))))):=by cases p<;>rfl
  rw[b,Sem.run_bind,h1L i];rfl
 have f:eqGuard .neq t x y (.pointer p) (.pointer none)=pure ():=rfl;simp[execOp,h.eval j,h.eval k,f,e]
end
end
end Go.Sl

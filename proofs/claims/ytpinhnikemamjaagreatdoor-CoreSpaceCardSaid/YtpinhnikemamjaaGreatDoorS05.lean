/- Part of the proof; no statement of its own. -/
import Derived.Test.YtpinhnikemamjaaGreatDoorS04
import Derived.MapKept
set_option linter.all false
set_option maxRecDepth 4000
set_option maxHeartbeats 4000000
namespace Go.Sb
section
abbrev B:=List UInt8
inductive Out (α:Type) where
 |ok (a:α)
 |err (e:Int)
 |big
abbrev Run (S α:Type):=S→Out α×S
section
variable {S α β:Type}
def ret (a:α):Run S α:=fun s=>(.ok a,s)
def n0L (e:Int):Run S α:=fun s=>(.err e,s)
def a0B (m:Run S α) (f:α→Run S β):Run S β:=fun s=>match m s with
 | (.ok a,t)=>f a t
 | (.err e,t)=>(.err e,t)
 | (.big,t)=>(.big,t)
theorem a0A {m:Run S α} {f:α→Run S β} {s t:S} {a:α} (h:m s=(.ok a,t)):a0B m f s=f a t:=by simp[a0B,h]
theorem a0F {m:Run S α} {f:α→Run S β} {s t:S} {e:Int} (h:m s=(.err e,t)):a0B m f s=(.err e,t):=by simp[a0B,h]
theorem c0I {m:Run S α} {f:α→Run S β} {s:S} (h:(a0B m f s).1≠ .big):(m s).1≠ .big:=by
 intro e;apply h;unfold a0B;split
 ·rename_i h';rw[h']at e;cases e
 ·rename_i h';rw[h']at e;cases e
 ·rfl
theorem p0H {m:Run S α} {f:α→Run S β} {s t:S} {a:α} (h:(a0B m f s).1≠ .big) (hm:m s=(.ok a,t)):(f a t).1≠ .big:=by rwa [a0A hm]at h
def d0V (f:α→Run S Unit):List α→Run S Unit
 | []=>ret ()
 |x::l=>a0B (f x) fun _=>d0V f l
def s0G (f:β→α→Run S β):β→List α→Run S β
 |b,[]=>ret b
 |b,x::l=>a0B (f b x) fun b'=>s0G f b' l
end
section
variable {K V:Type} [DecidableEq K]
def a0C (k:K):List (K×V)→Option V
 | []=>none
 | (j,v)::m=>if j=k then some v else a0C k m
def b0O (k:K) (v:V):List (K×V)→List (K×V)
 | []=> [(k,v)]
 | (j,u)::m=>if j=k then(k,v)::m else(j,u)::b0O k v m
def b0D (k:K):List (K×V)→List (K×V)
 | []=> []
 | (j,u)::m=>if j=k then m else(j,u)::b0D k m
end
structure Dk where
 l:List (B×B)
 armed:Bool
 left:Nat
 dead:Bool
 deriving Inhabited
def a0L (n:Nat):B:=List.replicate n 0
def k0W (d:Dk):Out Unit×Dk:=
 if d.dead then(.err 12,d)else if d.armed=false then(.ok (),d)else
 match d.left with
 |0=>(.err 12,{d with dead:=true})
 |n+1=>(.ok (),{d with left:=n})
def n0U (d:Dk) (at_:Int):Out B:=
 if d.dead then .err 12 else if at_<0∨(d.l.length:Int)≤at_ then .err 6 else .ok (d.l.getD at_.toNat ([],[])).2
def e0Y (d:Dk) (at_:Int) (s:B):Out Unit×Dk:=
 if d.dead then(.err 12,d)else if at_<0∨(d.l.length:Int)≤at_ then(.err 6,d)else if 64<s.length then(.err 3,d)else
 match k0W d with
 | (.err e,d')=>(.err e,d')
 | (.big,d')=>(.big,d')
 | (.ok _,d')=>(.ok (),{d' with l:=d'.l.set at_.toNat ((d'.l.getD at_.toNat ([],[])).1,s++a0L (64-s.length))})
def k0Q (n:Nat):Dk:= {l:=List.replicate n (a0L 64,a0L 64),armed:=false,left:=0,dead:=false}
structure Ent where
 id:Int
 parent:Int
 only:Bool
 size:Int
 root:Int
 born:Int
 deriving Inhabited,DecidableEq
inductive c0U where
 |give (at_:Int)
 |back (at_:Int)
 |refs (k:Int) (was:Option Int)
 |young (k:Int) (was:Option Int)
 |index (k:B) (was:Option Int)
 |vols (k:Int) (was:Option Ent)
 |keep (was:Int)
 |gone (was:List Int)
 |next (was:Int)
structure St where
 d:Dk
 fr:Nat
 g:List Nat
 refs:List (Int×Int)
 young:List (Int×Int)
 gone:List Int
 keep:Int
 log:List c0U
 depth:Nat
 bits:Nat
 index:List (B×Int)
 vols:List (Int×Ent)
 next:Int
 epoch:Int
abbrev M (α:Type):=Run St α
def isB (fr:Nat) (l:List Nat) (at_:Int) (what:Nat):Bool:=decide (at_≥fr)&&(decide (at_-fr<l.length)&&decide (l[(at_-fr).toNat]? =some what))
def mvL (fr:Nat) (l:List Nat) (at_:Int) (k to_:Nat):List Nat:=match isB fr l at_ k with|true=>l.set (at_-fr).toNat to_|false=>l
def b0R (fr:Nat) (l:List Nat):Int:=match l.findIdx? (· == 0)with|some i=>(fr+i:Nat)|none=>0
def h0M (l:List Nat):List Nat:=match l.findIdx? (· == 0)with|some i=>l.set i 1|none=>l
def g0B (l:List Nat):List Nat:=l.map fun x=>if x=2 then 0 else x
def f0R {K V:Type} [DecidableEq K] (k:K) (was:Option V) (m:List (K×V)):List (K×V):=match was with
 |some v=>b0O k v m
 |none=>b0D k m
def o0Q (st:c0U) (s:St):St:=match st with
 | .give a=> {s with g:=mvL s.fr s.g a 1 0}
 | .back a=> {s with g:=mvL s.fr s.g a 2 1}
 | .refs k was=> {s with refs:=f0R k was s.refs}
 | .young k was=> {s with young:=f0R k was s.young}
 | .index k was=> {s with index:=f0R k was s.index}
 | .vols k was=> {s with vols:=f0R k was s.vols}
 | .keep w=> {s with keep:=w}
 | .gone w=> {s with gone:=w}
 | .next w=> {s with next:=w}
def e0O (s:St):List c0U→St
 | []=>s
 |st::l=>o0Q st (e0O s l)
def d0M (i0H:Nat) (s:St):St:= {e0O s (s.log.drop i0H)with log:=s.log.take i0H}
def bk (depth:Nat) (log:List c0U) (st:c0U):List c0U:=if 0<depth then log++ [st]else log
def back (st:c0U):M Unit:=fun s=>if 1000000000≤s.log.length then(.big,s)else(.ok (),{s with log:=bk s.depth s.log st})
def x0A (n:Int):M Unit:=a0B (fun s=>back (.keep s.keep) s) fun _ s=>(.ok (),{s with keep:=n})
def h0X (l:List Int):M Unit:=fun s=>if 1000000000≤l.length then(.big,s)else a0B (fun s=>back (.gone s.gone) s) (fun _ s=>(.ok (),{s with gone:=l})) s
def p0Y (n:Int):M Unit:=a0B (fun s=>back (.next s.next) s) fun _ s=>(.ok (),{s with next:=n})
def h0I (k v:Int):M Unit:=a0B (fun s=>back (.refs k (a0C k s.refs)) s) fun _ s=>(.ok (),{s with refs:=b0O k v s.refs})
def m0E (k v:Int):M Unit:=a0B (fun s=>back (.young k (a0C k s.young)) s) fun _ s=>(.ok (),{s with young:=b0O k v s.young})
def f0F (k:B) (v:Int):M Unit:=a0B (fun s=>back (.index k (a0C k s.index)) s) fun _ s=>(.ok (),{s with index:=b0O k v s.index})
def s0R (k:Int) (v:Ent):M Unit:=a0B (fun s=>back (.vols k (a0C k s.vols)) s) fun _ s=>(.ok (),{s with vols:=b0O k v s.vols})
def l0B (k:Int):M Unit:=a0B (fun s=>back (.refs k (a0C k s.refs)) s) fun _ s=>(.ok (),{s with refs:=b0D k s.refs})
def f0M (k:Int):M Unit:=a0B (fun s=>back (.young k (a0C k s.young)) s) fun _ s=>(.ok (),{s with young:=b0D k s.young})
def h0O (k:B):M Unit:=a0B (fun s=>back (.index k (a0C k s.index)) s) fun _ s=>(.ok (),{s with index:=b0D k s.index})
def o0H (k:Int):M Unit:=a0B (fun s=>back (.vols k (a0C k s.vols)) s) fun _ s=>(.ok (),{s with vols:=b0D k s.vols})
def j0Z (x:Int):Int:=(x+9223372036854775808)%18446744073709551616-9223372036854775808
def c0N (s:St) (at_:Int):Int:=(a0C at_ s.refs).getD 0
def h0Y (s:St) (at_:Int):Int:=(a0C at_ s.young).getD 0
def a0Y (s:St):Nat:=s.g.count 0
def d2R (s:St):Nat:=s.g.count 1
def o0R (n:Int):M Unit:=x0A (max n 0)
def t0G (f:Dk→Out Unit×Dk):M Unit:=fun s=>match f s.d with| (o,d)=>(o,{s with d:=d})
def e0S (b:B):M Int:=fun s=>
 if(a0Y s:Int)≤s.keep then(.err 8,s)else
 let a:=b0R s.fr s.g
 a0B (fun s=>back (.give a) {s with g:=h0M s.g}) (fun _=>
 a0B (h0I a 1) fun _=>a0B (m0E a 1) fun _=>a0B (t0G fun d=>e0Y d a b) fun _=>ret a) s
def g0X (at_:Int):M B:=fun s=>if c0N s at_=0 then(.err 6,s)else(n0U s.d at_,s)
def k0S (at_:Int):M Unit:=fun s=>if c0N s at_=0 then(.err 6,s)else h0I at_ (j0Z (c0N s at_+1)) s
def inR (x:Int):Bool:=decide (-9223372036854775808≤x∧x≤9223372036854775807)
def e0G (at_:Int):M Bool:=fun s=>
 if inR at_=false then(.big,s)else if c0N s at_=0 then(.err 6,s)else if c0N s at_=1 then
  a0B (l0B at_) (fun _=>
  a0B (fun s=>back (.back at_) {s with g:=mvL s.fr s.g at_ 1 2}) fun _=>
  a0B (fun s=>if 0<h0Y s at_ then a0B (f0M at_) (fun _ s=>h0X (s.gone++ [at_]) s) s else ret () s) fun _=>ret true) s
 else a0B (h0I at_ (j0Z (c0N s at_-1))) (fun _=>ret false) s
def u0F (s:St):St:= {s with g:=s.gone.foldl (fun g a=>mvL s.fr (mvL s.fr g a 2 1) a 1 0) s.g,gone:= []}
def k0T (s:St):St:=if s.depth=1 then {s with depth:=0,log:= []} else {s with depth:=s.depth-1}
def o0I {C:Type} (run:Run (St×C) Unit):Run (St×C) Int:=fun x=>
 if 1000000000≤x.1.depth then(.big,x)else match run ({x.1 with depth:=x.1.depth+1},x.2)with
 | (.ok _,(t,c'))=>if t.depth=0 then(.big,(t,c'))else(.ok 0,(k0T t,c'))
 | (.err e,(t,c'))=>if t.depth=0∨e=0 then(.big,(t,c'))else(.ok e,(k0T (d0M x.1.log.length t),c'))
 | (.big,t)=>(.big,t)
def o0J {C:Type} (run:Run (St×C) Unit):Run (St×C) Int:=a0B (o0I run) fun e x=>(.ok e,(if x.1.depth=0 then u0F x.1 else x.1,x.2))
def be (l:B):Nat:=l.foldl (fun n c=>n*256+c.toNat) 0
def beB (x k:Nat):Nat→B
 |0=> []
 |m+1=>beB x k m++ [UInt8.ofNat (x/256^(k-1-m))]
def a0R (l:B):Bool:=l.all (· == 0)
def g0E (n:Nat) (l:B):B:=l++a0L (n-l.length)
def u64 (x:Int):Nat:=(x%18446744073709551616).toNat
def c0O (n:Nat) (l:B):B:=l.mapIdx fun i c=>if n<8*i+8 then c &&& UInt8.ofNat (255-255/2^(n-8*i))else c
end
end Go.Sb
section
namespace Go.Sl
open Go.Sb
def t0H (ft:TypeId) (e:Int):List PanicEntry:= [{v:= .iface ft (.agg #[.int .i64 e]),recovered:=false}]
def Ran {S α:Type} (ft:TypeId) (R:S→List a0E) (val:α→Value) (o:Out α×S):Ending→List a0E→Prop:=fun en L=>match o with
 | (.ok a,s)=>en= .returned (val a)∧L=R s
 | (.err e,s)=>en= .panicked (t0H ft e)∧L=R s
 | (.big,_)=>False
section
variable {c:Cx} {ops:Array Oper} {Q:Exit→Act→World→Prop} {rest:List Oper} {env:List (Nat×Value)} {L:List a0E}
 {d:Tmp} {ty:TypeId} {pos:String} {af:Array Edge} {fx:Operand} {f:FuncId} {xs:List Operand} {ats:Array TypeId} {first vs cap:List Value} {Pre M:List a0E}
theorem a0U {S α:Type} {ft:TypeId} {R:S→List a0E} {val:α→Value} {o:Out α×S}
 (hf:evo env fx=some (.func (.func f) first.toArray cap.toArray)) (hb:f0H c.P f=true) (hv:xs.mapM (evo env)=some vs)
 (hs:a0G c.P f (first++vs++cap).toArray Pre (Ran ft R val o)) (hL:b0A L Pre M)
 (hok: ∀a s,o=(.ok a,s)→OW c ops Q rest ((d,val a)::env) (R s++M))
 (herr: ∀e s,o=(.err e,s)→KW c Q (.panic (t0H ft e)) env (R s++M)) (hd:Nat.blt d c.n=true:=by rfl):
 OW c ops Q (⟨some d,.call {callee:= .value fx,args:=xs.toArray,argTypes:=ats},ty,pos,af,none⟩::rest) env L:=by
 refine w0Y hf hb hv hs hL (fun u L' hp a w hh=> ?_) (fun ch L' hp=> ?_) (fun L' hp=> ?_)
 ·obtain⟨x,s⟩:=o;cases x with
  |ok x=>obtain⟨e,rfl⟩:=hp;cases e;exact hok x s rfl _ _ (hh.put d _ hd)
  |err x=>obtain⟨e,rfl⟩:=hp;cases e
  |big=>exact hp.elim
 ·obtain⟨x,s⟩:=o;cases x with
  |ok x=>obtain⟨e,rfl⟩:=hp;cases e
  |err x=>obtain⟨e,rfl⟩:=hp;cases e;exact herr x s rfl
  |big=>exact hp.elim
 ·obtain⟨x,s⟩:=o;cases x with
  |ok x=>obtain⟨e,rfl⟩:=hp;cases e
  |err x=>obtain⟨e,rfl⟩:=hp;cases e
  |big=>exact hp.elim
end
theorem a0G.ran_ok {P:Program} {f:FuncId} {args:Array Value} {Pre:List a0E} {S α:Type} {ft:TypeId} {R:S→List a0E} {val:α→Value} {a:α} {s:S}
 (h:a0G P f args Pre (Ran ft R val (.ok a,s))):a0G P f args Pre (a0T (val a) (R s)):=h
end Go.Sl
namespace Go.Sl
open Go.Sb
section
variable {P:Program} {n:Nat} {w0:World} {Q:Exit→Act→World→Prop} {env:List (Nat×Value)} {L:List a0E} {fn:Func} {F:a0E}
 {S α:Type} {ft:TypeId} {R:S→List a0E} {val:α→Value} {o:Out α×S}
theorem n0M {a:α} {s:S} {u:Value} {R':List a0E} (ho:o=(.ok a,s)) (hq: ∀a w,BP P fn (Ran ft R val o) F w0 .ret a w→Q .ret a w) (hv:q0H fn env=some u) (hu:u=val a) (hL:b0A L (F::R s) R'):
 CW ⟨P,n,[],w0⟩ .ret Q env L:=by subst ho;exact s0A (k1T hq hv hL.back ⟨by rw[hu],rfl⟩)
theorem x0B {a:α} {s:S} {u:Value} {R':List a0E} (ho:o=(.ok a,s)) (hv:q0H fn env=some u) (hu:u=val a) (hL:b0A L (F::R s) R'):
 KW ⟨P,n,[],w0⟩ (BP P fn (Ran ft R val o) F w0) .normal env L:=by subst ho;exact x0Q hv hL.back ⟨by rw[hu],rfl⟩
theorem b0W {e:Int} {s:S} {R':List a0E} (ho:o=(.err e,s)) (hq: ∀a w,BP P fn (Ran ft R val o) F w0 (.panic (t0H ft e)) a w→Q (.panic (t0H ft e)) a w) (hL:b0A L (F::R s) R'):
 KW ⟨P,n,[],w0⟩ Q (.panic (t0H ft e)) env L:=by subst ho;exact d0U hq hL.back ⟨rfl,rfl⟩
end
end Go.Sl
end
namespace Go.Sl
open Go.Sb
open Go.BigFrame
section
structure w0C (P:Program) (k:TypeId) {κ:Type} [DecidableEq κ] (ek:κ→Value) (ok:κ→Prop):Prop where
 check: ∀(w:World) (em:Bool) (x:κ),ok x→(Instr.checkKey em 10000 k (ek x)).run P w= .ok () w
 find: ∀(w:World) (x:κ) (m:List (κ×MapEntry)),ok x→(∀p∈m,ok p.1∧p.2.key=ek p.1)→
  (Instr.findKey k (ek x) (m.map (·.2))).run P w= .ok ((m.findIdx? (fun p=>decide (p.1=x))).bind fun j=>(m[j]?).map fun p=>(j,p.2.val)) w
 stays: ∀(w:World) (x:κ),ok x→(Instr.keyThatStays (ek x) (ek x)).run P w= .ok (ek x) w
def b0K {κ ν:Type} (b:Nat) (ek:κ→Value) (ev:ν→Value) (m:List (κ×ν)):a0E:=fun l=>
 ∃(es:List MapEntry) (clk:Nat),es.map (fun e=>(e.key,e.val))=m.map (fun p=>(ek p.1,ev p.2))∧(es.map (·.born)).Nodup∧(∀e∈es,e.born<clk)∧l= [(b,.map es.toArray clk)]
theorem t0I {κ ν:Type} {b:Nat} {ek:κ→Value} {ev:ν→Value} {m:List (κ×ν)} {w:World} {L:List a0E} (h:Sat w (b0K b ek ev m::L)):
 ∃(es:List MapEntry) (clk:Nat),es.map (fun e=>(e.key,e.val))=m.map (fun p=>(ek p.1,ev p.2))∧(es.map (·.born)).Nodup∧(∀e∈es,e.born<clk)∧Sat w (pts b (.map es.toArray clk)::L):=by
 obtain⟨l,⟨l1,l2,rfl,⟨es,clk,a1,a2,a3,rfl⟩,h2⟩,hn,hh⟩:=h;exact⟨es,clk,a1,a2,a3,_,⟨_,l2,rfl,rfl,h2⟩,hn,hh⟩
theorem x0C {κ ν:Type} {b:Nat} {ek:κ→Value} {ev:ν→Value} {m:List (κ×ν)} {w:World} {L:List a0E} {es:List MapEntry} {clk:Nat}
 (h1:es.map (fun e=>(e.key,e.val))=m.map (fun p=>(ek p.1,ev p.2))) (h2:(es.map (·.born)).Nodup) (h3: ∀e∈es,e.born<clk) (h:Sat w (pts b (.map es.toArray clk)::L)):Sat w (b0K b ek ev m::L):=
 h.mono_head fun _ hl=>⟨es,clk,h1,h2,h3,hl⟩
theorem x0R {κ ν:Type} {b:Nat} (ek:κ→Value) (ev:ν→Value) {w:World} {L:List a0E} (h:Sat w (pts b (.map #[] 0)::L)):Sat w (b0K b ek ev []::L):=
 x0C (es:= []) (clk:=0) rfl (by simp) (by simp) h
theorem k1Y {α β:Type} (f:α→β): ∀(l:List α) (j:Nat),(l.eraseIdx j).map f=(l.map f).eraseIdx j
 | [],_=>rfl
 |_::_,0=>rfl
 |x::l,j+1=>by simp[k1Y f l j]
section
variable {κ ν:Type} [DecidableEq κ] {ek:κ→Value} {ev:ν→Value}
theorem i2N {x:κ} : ∀ {m:List (κ×ν)} {es:List MapEntry},es.map (fun e=>(e.key,e.val))=m.map (fun p=>(ek p.1,ev p.2))→
 (match ((m.zip es).map fun q=>(q.1.1,q.2)).findIdx? (fun p=>decide (p.1=x))with
  |none=>a0C x m=none∧b0D x m=m∧ ∀v,b0O x v m=m++ [(x,v)]
  |some j=> ∃v e,a0C x m=some v∧es[j]? =some e∧e.key=ek x∧e.val=ev v∧b0D x m=m.eraseIdx j∧ ∀u,b0O x u m=m.set j (x,u)):=by
 intro m
 induction m with
 |nil=>intro es h;simp[a0C,b0D,b0O]
 |cons p m ih=>
  intro es h;cases es with
  |nil=>simp at h
  |cons e es=>
   simp only[List.map_cons,List.cons.injEq,Prod.mk.injEq]at h;obtain⟨⟨hk,hv⟩,h⟩:=h;obtain⟨j,v⟩:=p;simp only[List.zip_cons_cons,List.map_cons,List.findIdx?_cons];by_cases hx:j=x
   ·subst hx;simp only[decide_true,if_true];exact⟨v,e,by simp[a0C],by simp,hk,hv,by simp[b0D],fun u=>by simp[b0O]⟩
   ·have i:=ih h;simp only[hx,decide_false,Bool.false_eq_true,if_false];cases hf:((m.zip es).map fun q=>(q.1.1,q.2)).findIdx? (fun p=>decide (p.1=x))with
    |none=>
     rw[hf]at i;simp only[Option.map_none];exact⟨by simp[a0C,hx,i.1],by simp[b0D,hx,i.2.1],fun u=>by simp[b0O,hx,i.2.2 u]⟩
    |some k=>
     rw[hf]at i;obtain⟨v',e',i1,i2,i3,i4,i5,i6⟩:=i;simp only[Option.map_some];exact⟨v',e',by simp[a0C,hx,i1],by simpa using i2,i3,i4,by simp[b0D,hx,i5],fun u=>by simp[b0O,hx,i6 u]⟩
theorem x2G {ok:κ→Prop} {m:List (κ×ν)} {es:List MapEntry} (hm: ∀p∈m,ok p.1) (h:es.map (fun e=>(e.key,e.val))=m.map (fun p=>(ek p.1,ev p.2))):
 (((m.zip es).map fun q=>(q.1.1,q.2)).map (·.2))=es∧ ∀p∈((m.zip es).map fun q=>(q.1.1,q.2)),ok p.1∧p.2.key=ek p.1:=by
 induction m generalizing es with
 |nil=>simp at h;subst h;simp
 |cons p m ih=>
  cases es with
  |nil=>simp at h
  |cons e es=>
   simp only[List.map_cons,List.cons.injEq,Prod.mk.injEq]at h;obtain⟨i1,i2⟩:=ih (fun q hq=>hm q (List.mem_cons_of_mem _ hq)) h.2;refine⟨by simpa using i1,?_⟩;intro q hq;simp only[List.zip_cons_cons,List.map_cons,List.mem_cons]at hq;rcases hq with rfl|hq
   ·exact⟨hm p List.mem_cons_self,h.1.1⟩
   ·exact i2 q hq
end
section
variable {c:Cx} {ops:Array Oper} {Q:Exit→Act→World→Prop} {rest:List Oper} {env:List (Nat×Value)} {L M:List a0E}
 {d:Tmp} {ty:TypeId} {pos:String} {af:Array Edge} {g:Option (Nat×Bool)} {dd:Option Tmp}
 {κ ν:Type} [DecidableEq κ] {ek:κ→Value} {ev:ν→Value} {ok:κ→Prop}
theorem z0Q {P:Program} {kt:TypeId} (K:w0C P kt ek ok) {m:List (κ×ν)} {es:List MapEntry} (hm: ∀p∈m,ok p.1) (h:es.map (fun e=>(e.key,e.val))=m.map (fun p=>(ek p.1,ev p.2))) (x:κ) (hx:ok x) (w:World):
 (a0C x m=none∧b0D x m=m∧(∀v,b0O x v m=m++ [(x,v)])∧(Instr.findKey kt (ek x) es).run P w= .ok none w)∨
 (∃j v e,a0C x m=some v∧es[j]? =some e∧e.key=ek x∧e.val=ev v∧b0D x m=m.eraseIdx j∧(∀u,b0O x u m=m.set j (x,u))∧(Instr.findKey kt (ek x) es).run P w= .ok (some (j,ev v)) w):=by
 obtain⟨z1,z2⟩:=x2G hm h;have hf:=K.find w x ((m.zip es).map fun q=>(q.1.1,q.2)) hx z2;rw[z1]at hf;have hfm:=i2N (x:=x) h;cases hi:((m.zip es).map fun q=>(q.1.1,q.2)).findIdx? (fun p=>decide (p.1=x))with
 |none=>
  rw[hi]at hfm hf;exact .inl ⟨hfm.1,hfm.2.1,hfm.2.2,by rw[hf];rfl⟩
 |some j=>
  rw[hi]at hfm hf;obtain⟨v,e,a1,a2,a3,a4,a5,a6⟩:=hfm;refine .inr ⟨j,v,e,a1,a2,a3,a4,a5,a6,?_⟩;rw[hf];have hz:((m.zip es).map fun q=>(q.1.1,q.2)).map (·.2)=es:=z1;have:(((m.zip es).map fun q=>(q.1.1,q.2))[j]?).map (·.2)=some e:=by rw[←List.getElem?_map,hz,a2]
  obtain⟨q,hq,rfl⟩:=Option.map_eq_some_iff.1 this;simp only[Option.bind_some,hq,Option.map_some,a4]
theorem d2S {P:Program} {t kt et:TypeId} {z:Value} (ht:q0I P t kt et=true) (K:w0C P kt ek ok) (hz:h0D P et=some z)
 {m:List (κ×ν)} {es:List MapEntry} {clk b:Nat} (hm: ∀p∈m,ok p.1) (h:es.map (fun e=>(e.key,e.val))=m.map (fun p=>(ek p.1,ev p.2))) {w:World} (hh:w.heap[b]? =some (.map es.toArray clk)) (x:κ) (hx:ok x) (co:Bool):
 (Instr.lookup t (.map (some b)) (ek x) co).run P w= .ok (if co then .tuple #[((a0C x m).map ev).getD z,.bool (a0C x m).isSome]else((a0C x m).map ev).getD z) w:=by
 unfold q0I at ht;split at ht
 case h_2=>cases ht
 rename_i y z' hu;simp only[Bool.and_eq_true,beq_iff_eq]at ht;obtain⟨rfl,rfl⟩:=ht;unfold h0D at hz;split at hz
 case h_2=>cases hz
 rename_i i hi;have hck:=K.check w es.toArray.isEmpty x hx;have hzr:(zeroValue z').run P w= .ok z w:=by simp[zeroValue,typeInfo,hi,hz]
 rcases z0Q K hm h x hx w with ⟨a1,_,_,a4⟩| ⟨j,v,e,a1,_,_,_,_,_,a4⟩
 ·simp only[Instr.lookup,Sem.run_bind,run_underlying hu,Result.andThen_ok,Go.MapKept.run_getObj_map hh,Sem.run_pure,hck,a4,hzr,a1,Option.map_none,Option.getD_none,Option.isSome_none]
 ·simp only[Instr.lookup,Sem.run_bind,run_underlying hu,Result.andThen_ok,Go.MapKept.run_getObj_map hh,Sem.run_pure,hck,a4,hzr,a1,Option.map_some,Option.getD_some,Option.isSome_some]
theorem s1S {t kt et b:Nat} {z:Value} {x y:Operand} {k:κ} {m:List (κ×ν)} {co:Bool} (ht:q0I c.P t kt et=true) (K:w0C c.P kt ek ok) (hm: ∀p∈m,ok p.1) (hk:ok k) (hz:h0D c.P et=some z)
 (hx:evo env x=some (.map (some b))) (hy:evo env y=some (ek k)) (hL:Fnd L (b0K b ek ev m) M):
 a0P c ⟨dd,.lookup t x y co,ty,pos,af,g⟩ env L (if co then .tuple #[((a0C k m).map ev).getD z,.bool (a0C k m).isSome]else((a0C k m).map ev).getD z):=by
 intro a w hh;obtain⟨es,clk,h1,h2,h3,hs⟩:=t0I (hL.sat hh.sat);have:=d2S ht K hz hm h1 hs.pts k hk co;simp only[execOp,hh.eval hx,hh.eval hy,Sem.run_bind,this,Result.andThen_ok,Sem.run_pure]
theorem e0Q {t kt et b:Nat} {z:Value} {x y:Operand} {k:κ} {m:List (κ×ν)} {f:Option ν→Value} (ht:q0I c.P t kt et=true) (K:w0C c.P kt ek ok) (hm: ∀p∈m,ok p.1) (hk:ok k) (hz:h0D c.P et=some z)
 (hx:evo env x=some (.map (some b))) (hy:evo env y=some (ek k)) (hL:Fnd L (b0K b ek ev m) M) (hf: ∀o:Option ν,(o.map ev).getD z=f o):
 a0P c ⟨dd,.lookup t x y false,ty,pos,af,g⟩ env L (f (a0C k m)):=by
 have:=s1S (c:=c) (dd:=dd) (ty:=ty) (pos:=pos) (af:=af) (g:=g) (co:=false) ht K hm hk hz hx hy hL;simpa [hf] using this
theorem o0W {t kt et b:Nat} {z:Value} {x y:Operand} {k:κ} {m:List (κ×ν)} {f:Option ν→Value} (ht:q0I c.P t kt et=true) (K:w0C c.P kt ek ok) (hm: ∀p∈m,ok p.1) (hk:ok k) (hz:h0D c.P et=some z)
 (hx:evo env x=some (.map (some b))) (hy:evo env y=some (ek k)) (hL:Fnd L (b0K b ek ev m) M) (hf: ∀o:Option ν,(o.map ev).getD z=f o):
 a0P c ⟨dd,.lookup t x y true,ty,pos,af,g⟩ env L (.tuple #[f (a0C k m),.bool (a0C k m).isSome]):=by
 have:=s1S (c:=c) (dd:=dd) (ty:=ty) (pos:=pos) (af:=af) (g:=g) (co:=true) ht K hm hk hz hx hy hL;simpa [hf] using this
theorem k1Z {t kt et b:Nat} {x:Operand} {m:List (κ×ν)} (ht:q0I c.P t kt et=true) (hx:evo env x=some (.map (some b))) (hL:Fnd L (b0K b ek ev m) M):
 a0P c ⟨dd,.call {callee:= .builtin .len,args:= #[x],argTypes:= #[t]},ty,pos,af,g⟩ env L (.int .i64 m.length):=by
 intro a w hh;obtain⟨es,clk,h1,h2,h3,hs⟩:=t0I (hL.sat hh.sat);have hl:es.length=m.length:=by simpa using congrArg List.length h1
 have hb:=hs.pts;unfold q0I at ht;split at ht
 ·rename_i y z hu;rw[execOp_builtin,builtin_len];simp[hh.eval hx,Builtin.len_,run_underlying hu,goInt,getObj,Sem.run,hb,hl]
 ·simp at ht
theorem y0W {w:World} {b:Nat} {o:Obj} :({w with heap:=w.heap.setIfInBounds b o} :World)=put w b o:=rfl
theorem d2T {es:List MapEntry} {j:Nat} {e:MapEntry} {f:MapEntry→MapEntry} (h:es[j]? =some e):(es.toArray.modify j f)=(es.set j (f e)).toArray:=by
 apply Array.ext
 ·simp
 ·intro k h1 h2;simp at h1;rw[Array.getElem_modify];simp only[List.getElem_toArray,List.getElem_set];split
  ·rename_i hk;subst hk;rw[List.getElem?_eq_getElem h1]at h;rw[Option.some.inj h]
  ·rfl
theorem i0O {t kt et b:Nat} {x y u:Operand} {k:κ} {v:ν} {m:List (κ×ν)} (ht:q0I c.P t kt et=true) (K:w0C c.P kt ek ok) (hm: ∀p∈m,ok p.1) (hk:ok k)
 (hx:evo env x=some (.map (some b))) (hy:evo env y=some (ek k)) (hu':evo env u=some (ev v)) (hL:Fnd L (b0K b ek ev m) M)
 (h:OW c ops Q rest env (b0K b ek ev (b0O k v m)::M)):OW c ops Q (⟨none,.mapUpdate t x y u,ty,pos,af,none⟩::rest) env L:=by
 intro a w hh;obtain⟨es,clk,h1,h2,h3,hs⟩:=t0I (hL.sat hh.sat);have hb:=hs.pts;unfold q0I at ht;split at ht
 case h_2=>cases ht
 rename_i y' z' hu;simp only[Bool.and_eq_true,beq_iff_eq]at ht;obtain⟨rfl,rfl⟩:=ht;have hck:=K.check w false k hk;refine wpList_plain rfl fun N hN=> ?_;unfold Oper.wp;rcases z0Q K hm h1 k hk w with ⟨a1,_,a3,a4⟩| ⟨j,v0,e,a1,a2,a3,a4,a5,a6,a7⟩
 ·have hrun:(Instr.mapUpdate t (.map (some b)) (ek k) (ev v)).run c.P w= .ok () (put w b (.map (es++ [({key:=ek k,val:=ev v,born:=clk} :MapEntry)]).toArray (clk+1))):=by
   simp only[Instr.mapUpdate,Sem.run_bind,run_underlying hu,Result.andThen_ok,Go.MapKept.run_getObj_map hb,hck,a4,Go.MapKept.run_setObj_map _ hb,y0W,List.push_toArray]
  simp only[execOp,hh.eval hx,hh.eval hy,hh.eval hu',Sem.run_bind,hrun,Result.andThen_ok,Sem.run_pure,Oper.upon];refine hN _ _ (h _ _ ⟨hh.size,hh.slots,hh.defers,x0C (es:=es++ [({key:=ek k,val:=ev v,born:=clk} :MapEntry)]) (clk:=clk+1) ?_ ?_ ?_ hs.put,hh.like.put _ _⟩)
  ·rw[a3];simp[h1]
  ·rw[List.map_append,List.nodup_append];refine⟨h2,by simp,?_⟩;intro x hx y hy e;obtain⟨e',he',rfl⟩:=List.mem_map.1 hx;simp at hy;subst hy;have:=h3 e' he';omega
  ·intro e he;rcases List.mem_append.1 he with he|he
   ·have:=h3 e he;omega
   ·simp at he;subst he;simp
 ·have hst:=K.stays w k hk;have hrun:(Instr.mapUpdate t (.map (some b)) (ek k) (ev v)).run c.P w= .ok () (put w b (.map (es.set j ({key:=ek k,val:=ev v,born:=e.born} :MapEntry)).toArray clk)):=by
   have ha:((es.toArray[j]?).map (·.key)).getD (ek k)=ek k:=by simp[a2,a3]
   have hm:(es.toArray.modify j fun e=> {e with key:=ek k,val:=ev v})=(es.set j ({key:=ek k,val:=ev v,born:=e.born} :MapEntry)).toArray:=d2T a2;simp only[Instr.mapUpdate,Sem.run_bind,run_underlying hu,Result.andThen_ok,Go.MapKept.run_getObj_map hb,hck,a7,ha,hst,hm,Go.MapKept.run_setObj_map _ hb,y0W]
  simp only[execOp,hh.eval hx,hh.eval hy,hh.eval hu',Sem.run_bind,hrun,Result.andThen_ok,Sem.run_pure,Oper.upon];have hbn:(es.set j ({key:=ek k,val:=ev v,born:=e.born} :MapEntry)).map (·.born)=es.map (·.born):=by
   rw[List.map_set];apply List.ext_getElem?;intro i;rw[List.getElem?_set];split
   ·rename_i hi;subst hi;split<;>simp_all
   ·rfl
  refine hN _ _ (h _ _ ⟨hh.size,hh.slots,hh.defers,x0C (es:=es.set j ({key:=ek k,val:=ev v,born:=e.born} :MapEntry)) (clk:=clk) ?_ ?_ ?_ hs.put,hh.like.put _ _⟩)
  ·rw[a6,List.map_set,List.map_set,h1]
  ·rw[hbn];exact h2
  ·intro e' he';rcases List.mem_or_eq_of_mem_set he' with he'|rfl
   ·exact h3 e' he'
   ·exact h3 e (List.mem_of_getElem? a2)
theorem q0N {t kt et b:Nat} {kt':Nat} {x y:Operand} {k:κ} {m:List (κ×ν)} (ht:q0I c.P t kt et=true) (K:w0C c.P kt ek ok) (hm: ∀p∈m,ok p.1) (hk:ok k)
 (hx:evo env x=some (.map (some b))) (hy:evo env y=some (ek k)) (hL:Fnd L (b0K b ek ev m) M)
 (h:OW c ops Q rest env (b0K b ek ev (b0D k m)::M)):OW c ops Q (⟨none,.call {callee:= .builtin .delete,args:= #[x,y],argTypes:= #[t,kt']},ty,pos,af,none⟩::rest) env L:=by
 intro a w hh;obtain⟨es,clk,h1,h2,h3,hs⟩:=t0I (hL.sat hh.sat);have hb:=hs.pts;unfold q0I at ht;split at ht
 case h_2=>cases ht
 rename_i y' z' hu;simp only[Bool.and_eq_true,beq_iff_eq]at ht;obtain⟨rfl,rfl⟩:=ht;have hck:=K.check w es.toArray.isEmpty k hk;refine wpList_plain rfl fun N hN=> ?_;unfold Oper.wp;rw[execOp_builtin];rcases z0Q K hm h1 k hk w with ⟨a1,a2,a3,a4⟩| ⟨j,v0,e,a1,a2,a3,a4,a5,a6,a7⟩
 ·have hrun:(Builtin.delete_ #[t,kt'] ty #[.map (some b),ek k]).run c.P w= .ok (.tuple #[]) (put w b (.map es.toArray clk)):=by
   have hck':(Instr.checkKey es.isEmpty 10000 y' (ek k)).run c.P w= .ok () w:=by simpa using hck
   simp[Builtin.delete_,run_underlying hu,Go.MapKept.run_getObj_map hb,hck',a4,Go.MapKept.run_setObj_map _ hb,y0W]
  simp only[builtin_delete,List.map_toArray,List.map_cons,List.map_nil,hh.eval hx,hh.eval hy,Sem.run_bind,hrun,Result.andThen_ok,Sem.run_pure,Oper.upon];exact hN _ _ (h _ _ ⟨hh.size,hh.slots,hh.defers,by rw[a2];exact x0C h1 h2 h3 hs.put,hh.like.put _ _⟩)
 ·have hj:j<es.length:=by
   rcases Nat.lt_or_ge j es.length with h'|h'
   ·exact h'
   ·rw[List.getElem?_eq_none h']at a2;cases a2
  have hrun:(Builtin.delete_ #[t,kt'] ty #[.map (some b),ek k]).run c.P w= .ok (.tuple #[]) (put w b (.map (es.eraseIdx j).toArray clk)):=by
   have hck':(Instr.checkKey es.isEmpty 10000 y' (ek k)).run c.P w= .ok () w:=by simpa using hck
   have he:es.toArray.eraseIdxIfInBounds j=(es.eraseIdx j).toArray:=by simp
   simp[Builtin.delete_,run_underlying hu,Go.MapKept.run_getObj_map hb,hck',a7,Go.MapKept.run_setObj_map _ hb,y0W]
  simp only[builtin_delete,List.map_toArray,List.map_cons,List.map_nil,hh.eval hx,hh.eval hy,Sem.run_bind,hrun,Result.andThen_ok,Sem.run_pure,Oper.upon];refine hN _ _ (h _ _ ⟨hh.size,hh.slots,hh.defers,x0C (es:=es.eraseIdx j) (clk:=clk) ?_ ?_ ?_ hs.put,hh.like.put _ _⟩)
  ·rw[a5,k1Y,k1Y,h1]
  ·rw[k1Y];exact h2.sublist (List.eraseIdx_sublist _ _)
  ·exact fun e he=>h3 e ((List.eraseIdx_sublist _ _).mem he)
theorem y1E {P:Program} {k:IntKind} {x:Int} : ∀(m:List (Int×MapEntry)),(∀p∈m,p.2.key= .int k p.1)→ ∀i,Instr.findNow (.int k) (.int k x) (m.map (·.2)) i=some ((m.findIdx? (fun p=>decide (p.1=x))).bind fun j=>(m[j]?).map fun p=>(j+i,p.2.val)):=by
 intro m
 induction m with
 |nil=>intro _ i;rfl
 |cons p m ih=>
  intro h i;have hp:=h p (by simp);simp only[List.map_cons,Instr.findNow,hp,Instr.sameNow,if_true,List.findIdx?_cons];by_cases hx:p.1=x
  ·subst hx;simp
  ·have hx':(x == p.1)=false:=by simp[Ne.symm hx]
   simp only[hx',hx,decide_false,Bool.false_eq_true,if_false];rw[ih (fun q hq=>h q (by simp[hq])) (i+1)];cases m.findIdx? (fun p=>decide (p.1=x))with
   |none=>simp
   |some j=>
    simp only[Option.bind_some,Option.map_some,List.getElem?_cons_succ];rw[show j+(i+1)=j+1+i by omega]
theorem s1T {P:Program} {t:TypeId} {k:IntKind} (ht:y0U P t k=true):w0C P t (fun x:Int=> .int k x) (fun _=>True) where
 check w em x _:=by
  unfold y0U at ht;split at ht
  case h_2=>cases ht
  rename_i j hu;have key: ∀n,(Instr.checkKey em (n+1) t (.int k x)).run P w= .ok () w:=fun n=>by
   simp only[Instr.checkKey,Sem.run_bind,run_underlying hu,Result.andThen_ok,Sem.run_pure]
  exact key 9999
 find w x m _ h:=by
  unfold y0U at ht;split at ht
  case h_2=>cases ht
  rename_i j hu;simp only[beq_iff_eq]at ht;subst ht;simp only[Instr.findKey,Sem.run_bind,run_underlying hu,Result.andThen_ok,y1E (P:=P) m (fun p hp=>(h p hp).2) 0,Sem.run_pure,Nat.add_zero]
 stays w x _:=by
  have key: ∀n,Instr.sameBits (n+1) (.int k x) (.int k x)=true:=fun n=>by
   have h1:(k == k)=true:=by cases k<;>rfl
   show(k == k&&x == x)=true;rw[h1,Bool.true_and];exact beq_self_eq_true x
  unfold Instr.keyThatStays;rw[if_pos (key 9999)];rfl
end
end
end Go.Sl
section
namespace Go.Sl
open Go.BigFrame
section
variable {c:Cx} {ops:Array Oper} {Q:Exit→Act→World→Prop} {rest:List Oper} {env:List (Nat×Value)} {L M:List a0E}
 {d:Tmp} {ty:TypeId} {pos:String} {af:Array Edge} {g:Option (Nat×Bool)} {dd:Option Tmp} {y:Code}
def b1L (a:Option Addr) (l m size:Nat):Option Addr:=if m=l then a else a.map (·.add (l*size))
theorem i1Q {t e n:TypeId} {x u:Operand} {a:Option Addr} {len cap:Nat} {k:IntKind} {hi:Int} (ht:c0X c.P t e n=true) (hx:evo env x=some (.slice a len cap)) (hu:evo env u=some (.int k hi)) (hb:0≤hi∧hi≤cap):
 a0P c ⟨dd,.slice t x none (some u) none,ty,pos,af,g⟩ env L (.slice a hi.toNat cap):=by
 intro a' w hh;simp only[c0X,Bool.and_eq_true]at ht;obtain⟨ht1,ht2⟩:=ht;split at ht1
 case h_2=>cases ht1
 rename_i e' he;split at ht2
 case h_2=>cases ht2
 rename_i i hi';simp only[beq_iff_eq]at ht1;subst ht1;have:a.map (fun x:Addr=>x.add (0*i.size))=a:=by cases a<;>simp[Addr.add]
 simp only[execOp,hh.eval hx,hh.eval hu,Instr.sliceAt,Option.map_some,Option.map_none,Sem.run_bind,run_underlying he,Result.andThen_ok,Instr.slice,Instr.sliceBounds,Instr.sliceBound,asIntOf,Sem.run_pure];simp[hb.1,hb.2,sizeOf,typeInfo,hi',Addr.add]
theorem p1N {t e n:TypeId} {x u v:Operand} {a:Option Addr} {len cap:Nat} {k j:IntKind} {hi mx:Int} (ht:c0X c.P t e n=true) (hx:evo env x=some (.slice a len cap)) (hu:evo env u=some (.int k hi)) (hv:evo env v=some (.int j mx)) (hb:0≤hi∧hi≤mx∧mx≤cap):
 a0P c ⟨dd,.slice t x none (some u) (some v),ty,pos,af,g⟩ env L (.slice a hi.toNat mx.toNat):=by
 intro a' w hh;simp only[c0X,Bool.and_eq_true]at ht;obtain⟨ht1,ht2⟩:=ht;split at ht1
 case h_2=>cases ht1
 rename_i e' he;split at ht2
 case h_2=>cases ht2
 rename_i i hi';simp only[beq_iff_eq]at ht1;subst ht1;have h1:0≤mx:=by omega
 have h2:hi≤max mx 0:=by omega
 simp only[execOp,hh.eval hx,hh.eval hu,hh.eval hv,Instr.sliceAt,Option.map_some,Option.map_none,Sem.run_bind,run_underlying he,Result.andThen_ok,Instr.slice,Instr.sliceBounds,Instr.sliceBound,asIntOf,Sem.run_pure];simp[hb.1,hb.2,h1,h2,sizeOf,typeInfo,hi',Addr.add]
theorem s1U {t e n:TypeId} {x u:Operand} {a:Option Addr} {len cap:Nat} {k:IntKind} {lo:Int} (ht:c0X c.P t e n=true) (hx:evo env x=some (.slice a len cap)) (hu:evo env u=some (.int k lo)) (hb:0≤lo∧lo≤len) (hc:len≤cap):
 a0P c ⟨dd,.slice t x (some u) none none,ty,pos,af,g⟩ env L (.slice (b1L a lo.toNat cap n) (len-lo.toNat) (cap-lo.toNat)):=by
 intro a' w hh;simp only[c0X,Bool.and_eq_true]at ht;obtain⟨ht1,ht2⟩:=ht;split at ht1
 case h_2=>cases ht1
 rename_i e' he;split at ht2
 case h_2=>cases ht2
 rename_i i hi';simp only[beq_iff_eq]at ht1 ht2;subst ht1;subst ht2;simp only[execOp,hh.eval hx,hh.eval hu,Instr.sliceAt,Option.map_some,Option.map_none,Sem.run_bind,run_underlying he,Result.andThen_ok,Instr.slice,Instr.sliceBounds,Instr.sliceBound,asIntOf,Sem.run_pure];simp[hb.1,hb.2,sizeOf,typeInfo,hi',b1L]
theorem n0N {p:Prop} (hL:Fnd L (m0X p) M) (h:p→CW c y Q env L):CW c y Q env L:=fun a w hh=>h (u0D.1 (hL.sat hh.sat)).1 a w hh
theorem n0V {p:Prop} (hp:p) (w:World) (h:Sat w L):Sat w (m0X p::L):=u0D.2 ⟨hp,h⟩
theorem z2O {α:Type} {A:α→a0E} (hL:Fnd L (ex A) M) (h: ∀x,CW c y Q env (A x::M)):CW c y Q env L:=fun a w hh=>by
 obtain⟨x,hs⟩:=g0K.1 (hL.sat hh.sat);exact h x a w ⟨hh.size,hh.slots,hh.defers,hs,hh.like⟩
theorem l0C {N:List a0E} (hL:Fnd L (b0E N) M) (h:CW c y Q env (N++M)):CW c y Q env L:=fun a w hh=>h a w ⟨hh.size,hh.slots,hh.defers,b0M.1 (hL.sat hh.sat),hh.like⟩
theorem v0M {α:Type} {N:α→List a0E} (hL:Fnd L (ex fun x=>b0E (N x)) M) (h: ∀x,CW c y Q env (N x++M)):CW c y Q env L:=z2O hL fun x=>l0C Fnd.here (h x)
theorem x2H {e:TypeId} {size:Nat} {v:Value} {n:Nat} {xs:List Value} {w:World} (h:Sat w (b0I e size v n xs::L)) (hn:0<n): ∃b cap,v= .slice (some ⟨b,0,none⟩) n cap∧n≤cap:=by
 obtain⟨_,hc⟩:=f0O h;rcases hc with ⟨_,rfl,_⟩| ⟨b,cap,cur,rfl,h1,_⟩
 ·omega
 ·exact⟨b,cap,rfl,h1⟩
theorem i0T {e:TypeId} {size:Nat} {v:Value} {n:Nat} {xs:List Value} (hL:Fnd L (b0I e size v n xs) M) (hn:0<n) (h: ∀b cap,v= .slice (some ⟨b,0,none⟩) n cap→n≤cap→CW c y Q env L):CW c y Q env L:=fun a w hh=>by
 obtain⟨b,cap,hv,hc⟩:=x2H (hL.sat hh.sat) hn;exact h b cap hv hc a w hh
theorem n0W {e:TypeId} {size:Nat} {v:Value} {n:Nat} {xs:List Value} (hL:Fnd L (b0I e size v n xs) M) (h: ∀p cap,v= .slice p n cap→n≤cap→xs.length=n*size→CW c y Q env L):CW c y Q env L:=fun a w hh=>by
 obtain⟨hl,hc⟩:=f0O (hL.sat hh.sat);rcases hc with ⟨rfl,rfl,_⟩| ⟨b,cap,cur,rfl,h1,_⟩
 ·exact h none 0 rfl (Nat.le_refl _) hl a w hh
 ·exact h _ cap rfl h1 hl a w hh
theorem a0X {x:Operand} {t:TypeId} {b o cap n size:Nat} {e:TypeId} {xs:List Value} {v:Value} (ht:f0Q c.P t=true) (hx:evo env x=some (.pointer (some ⟨b,o,none⟩)))
 (hL:Fnd L (b0I e size (.slice (some ⟨b,0,none⟩) n cap) n xs) M) (hv:nth xs o=some v):a0P c ⟨dd,.load t x,ty,pos,af,g⟩ env L v:=by
 intro a w hh;obtain⟨hl,hc⟩:=f0O (hL.sat hh.sat);rcases hc with ⟨h0,_⟩| ⟨b',cap',cur,h0,h1,h2,h3,h4,hs⟩
 ·cases h0
 ·simp only[Value.slice.injEq,Option.some.injEq,Addr.mk.injEq]at h0;obtain⟨⟨rfl,_,_⟩,_,rfl⟩:=h0;have hcur:nth cur o=some v:=by
   rw[e0F]at hv ⊢;rw[←h4]at hv;rw[List.getElem?_take]at hv;split at hv
   ·exact hv
   ·cases hv
  have:Fnd (pts b (.cells cur.toArray e (0,0))::M) (pts b (.cells cur.toArray e (0,0))) M:=Fnd.here;exact b0N (c:=c) (L:=pts b (.cells cur.toArray e (0,0))::M) (M:=M) (d:=dd) (g:=g) (ty:=ty) (pos:=pos) (af:=af) ht hx hcur a w ⟨hh.size,hh.slots,hh.defers,hs,hh.like⟩
theorem d2U {e:TypeId} {size b n k cap:Nat} {xs:List Value} {w:World} (hk:k≤n) (h:Sat w (b0I e size (.slice (some ⟨b,0,none⟩) n cap) n xs::L)):Sat w (b0I e size (.slice (some ⟨b,0,none⟩) k cap) k (xs.take (k*size))::L):=by
 obtain⟨hl,hc⟩:=f0O h;rcases hc with ⟨h0,_⟩| ⟨b',cap',cur,h0,h1,h2,h3,h4,hs⟩
 ·cases h0
 ·simp only[Value.slice.injEq,Option.some.injEq,Addr.mk.injEq]at h0;obtain⟨⟨rfl,_,_⟩,_,rfl⟩:=h0;refine r0J hs (by omega) h2 h3 ?_;rw[←h4,List.take_take,Nat.min_eq_left (Nat.mul_le_mul_right _ hk)]
end
end Go.Sl
namespace Go.Sl
theorem j0J {P:Program} {f:FuncId} {args:Array Value} {Pre L M N N' R:List a0E} {v:Value} (h:a0G P f args Pre (a0T v N)) (hL:b0A L Pre M) (hN:b0A (N++M) N' R):a0G P f args L (a0T v N'):=by
 intro w F hs;have h1:Sat w (Pre++ [b0E (F::M)]):=by
  have a1:Sat w ((Pre++M)++ [F]):=hs.perm (hL.append_right [F]);have a2:Sat w ((F::M)++Pre):=a1.perm (by
   refine(List.perm_append_comm (l₁:=Pre++M) (l₂:= [F])).trans ?_;exact(List.Perm.cons F (List.perm_append_comm (l₁:=Pre) (l₂:=M)):(F::(Pre++M)).Perm (F::(M++Pre))))
  exact(b0M.2 a2).perm (List.perm_append_comm (l₁:= [b0E (F::M)]))
 refine(h w _ h1).mono ?_;rintro e w' ⟨L',⟨rfl,rfl⟩,hs',hl⟩;have a1:Sat w' ((F::M)++L'):=b0M.1 (hs'.perm List.perm_append_comm);have a2:Sat w' ((N'++R)++ [F]):=by
  have a3:Sat w' (F::(L'++M)):=a1.perm (List.Perm.cons F List.perm_append_comm);exact(a3.perm (List.Perm.cons F hN)).perm (List.perm_append_comm (l₁:= [F]))
 have a4:Sat w' (R++(N'++ [F])):=a2.perm (by
  rw[List.append_assoc];exact(List.perm_append_comm (l₁:=N') (l₂:=R++ [F])).trans (by rw[List.append_assoc];exact List.Perm.append_left R List.perm_append_comm))
 exact⟨N',⟨rfl,rfl⟩,a4.drop,hl⟩
end Go.Sl
namespace Go.Sl
theorem i1R {P:Program} {f:FuncId} {args:Array Value} {Pre Pre':List a0E} {Post:Ending→List a0E→Prop} (hp: ∀w F,Sat w (Pre'++F)→Sat w (Pre++F)) (h:a0G P f args Pre Post):a0G P f args Pre' Post:=
 fun w F hs=>h w F (hp w [F] hs)
theorem k0N {P:Program} {f:FuncId} {args:Array Value} {N M:List a0E} {Post:Ending→List a0E→Prop} (h:a0G P f args (N++M) Post):a0G P f args (b0E N::M) Post:=
 i1R (fun w F hs=>by
  have h1:Sat w (b0E N::(M++F)):=hs;have h2:=b0M.1 h1
  rwa [List.append_assoc]) h
theorem g0F {P:Program} {f:FuncId} {args:Array Value} {Pre N:List a0E} {v:Value} {X:Type} {p:X→Prop} {v':X→Value} {N':X→List a0E} (x:X) (hx:p x) (hv:v=v' x) (hN:N=N' x) (h:a0G P f args Pre (a0T v N)):a0G P f args Pre (b0P p v' N'):=
 fun w F hs=>(h w F hs).mono fun e w' ⟨L',⟨he,hL⟩,hs',hl⟩=>⟨L',⟨x,hx,by rw[he,hv],by rw[hL,hN]⟩,hs',hl⟩
theorem Sat.re {w:World} {L M:List a0E} (h:Sat w L) (hL:b0A L M []):Sat w M:=by have:=h.perm hL;rwa [List.append_nil]at this
end Go.Sl
namespace Go.Sl
theorem i2O {c:Cx} {Q:Exit→Act→World→Prop} {env:List (Nat×Value)} {L M:List a0E} {y:Code} {e:TypeId} {size b n k cap:Nat} {xs:List Value} (hL:Fnd L (b0I e size (.slice (some ⟨b,0,none⟩) n cap) n xs) M) (hk:k≤n)
 (h:CW c y Q env (b0I e size (.slice (some ⟨b,0,none⟩) k cap) k (xs.take (k*size))::M)):CW c y Q env L:=fun a w hh=>h a w ⟨hh.size,hh.slots,hh.defers,d2U hk (hL.sat hh.sat),hh.like⟩
end Go.Sl
end
namespace Go.Sl
section
theorem y1F {P:Program} {f:FuncId} {fn:Func} {y:Code} {args:List Value} {u:FrameMode} {Pre:List a0E} {Post:Ending→FrameMode→List a0E→Prop} {n:Nat}
 (hf:P.funcs[f]? =some fn) (hb:fn.body=some y) (hn:fn.ntmps=n) (hle':Nat.ble args.length n=true)
 (h: ∀F w0,CW ⟨P,n,[],w0⟩ y (BP P fn (fun e L=>Post e u L) F w0) (j0X 0 args) (Pre++ [F])):b1K P f args.toArray u Pre Post:=by
 have hle:args.length≤n:=Nat.le_of_ble_eq_true hle';intro w F hsat;refine callsD_of_wpS hf hb fun c₀ cs hu=> ?_;have hh0:b0J ⟨P,n,[],w⟩ (j0X 0 args) (Pre++ [F]) {tmps:=args.toArray++Array.replicate (fn.ntmps-args.toArray.size) undef,defers:= []} w:=by
  refine⟨by simp[hn];omega,?_,rfl,hsat,d0S.refl w⟩;intro t v ht;obtain⟨_,h2⟩:=r0H args 0 t v ht;simp only[Nat.sub_zero]at h2;have hlt:t<args.length:=by
   rcases Nat.lt_or_ge t args.length with h'|h'
   ·exact h'
   ·rw[List.getElem?_eq_none h']at h2;cases h2
  rw[Array.getElem?_append_left (by simpa using hlt)];simpa using h2
 subst hu;refine wpS_of_wp (wp_mono (h F w _ w hh0) ?_);rintro e a' w' q;have hc:c₀::cs= {c₀ with mode:=c₀.mode} ::cs:=by cases c₀;rfl
 cases e with
 |normal=>obtain⟨q1,v,q2,q3⟩:=q;exact⟨q1,_,hc,v,q2,q3⟩
 |ret=>obtain⟨q1,v,q2,q3⟩:=q;exact⟨q1,_,hc,v,q2,q3⟩
 |panic ch=>obtain⟨q1,q2⟩:=q;exact⟨q1,_,hc,q2⟩
 |outgrown=>exact⟨_,q⟩
 |exit _=>exact q.elim
 |goto _=>exact q.elim
section
variable {P:Program} {n:Nat} {w0:World} {Q:Exit→Act→World→Prop} {env:List (Nat×Value)} {L:List a0E} {fn:Func} {Post:Ending→List a0E→Prop} {F:a0E} {f:FuncId} {cap args:List Value}
theorem l1A {e:Exit} (he:e= .normal∨e= .ret) (hq: ∀a w,BPD P fn Post F w0 e a w→Q e a w) {v:Value} (hres:q0H fn env=some v) (hb:f0H P f=true) {Pre M:List a0E} {X:Type} {p:X→Prop} {N:X→List a0E}
 (hs:b1K P f (args++cap).toArray .returning Pre (fun e u' L'=> ∃x,p x∧(∃v,e= .returned v)∧settle u'= .returning∧L'=N x)) (hL:b0A L Pre M) (hF: ∀x,p x→ ∃L' R,b0A (N x++M) (F::L') R∧Post (.returned v) L'):
 KW ⟨P,n,[{target:= .fn (.func f) cap.toArray,args:=args.toArray}],w0⟩ Q e env L:=by
 intro a w hh;have hsat:Sat w (Pre++ [b0E M]):=by
  have h1:=hh.sat.perm hL;have h2:Sat w (b0E M::Pre):=b0M.2 (h1.perm List.perm_append_comm);exact h2.perm (List.perm_append_comm (l₁:= [b0E M]) (l₂:=Pre))
 have hrun:(invoke (.fn (.func f) cap.toArray) args.toArray).run P w= .ok (.enter f (args++cap).toArray) w:=by
  simp only[invoke];rw[show(args.toArray++cap.toArray)=(args++cap).toArray by simp];exact t0C hb _ w
 have hlv:Leaves P fn a.tmps (fun e w'=> ∃L',Post e L'∧Sat w' (L'++ [F])∧d0S w0 w') a.defers .returning w:=by
  rw[hh.defers];refine⟨by simp,_,_,f,(args++cap).toArray,rfl,hrun,?_⟩;intro c₀ cs hc;obtain⟨e',u',w',fr,⟨L1,⟨x,hx,⟨v',hv⟩,hset,rfl⟩,hs',hl⟩,hcm⟩:=hs w (b0E M) hsat c₀ cs hc;refine⟨e',u',w',fr,?_,hcm⟩;subst hv;show Leaves P fn a.tmps _ [] (settle u') w';rw[hset];obtain⟨L',R,hF',hp⟩:=hF x hx;have hsat':Sat w' (N x++M):=by
   have h1:Sat w' (b0E M::N x):=hs'.perm (List.perm_append_comm (l₁:=N x) (l₂:= [b0E M]));exact(b0M.1 h1).perm List.perm_append_comm
  refine⟨v,?_,L',hp,((hsat'.perm hF'.back).perm List.perm_append_comm).drop,hh.like.trans hl⟩;have hh':b0J ⟨P,n,[{target:= .fn (.func f) cap.toArray,args:=args.toArray}],w'⟩ env [] a w':=⟨hh.size,hh.slots,hh.defers,Sat.nil w',d0S.refl w'⟩;exact b1G hh' hres
 refine hq a w ?_;rcases he with rfl|rfl<;>exact hlv
end
end
end Go.Sl

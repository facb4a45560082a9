/- Part of the proof; no statement of its own. -/
import Derived.Test.YtpinhnikemamjaaGreatDoorD04
import Derived.MapKept
set_option linter.all false
set_option maxRecDepth 4000
set_option maxHeartbeats 4000000
namespace Go.Sb
section
abbrev B:=List UInt8
inductive Out (α:Type) where
 |ok (a:α)
 |err (e:Int)
 |big
abbrev Run (S α:Type):=S→Out α×S
section
variable {S α β:Type}
def ret (a:α):Run S α:=fun s=>(.ok a,s)
def n0L (e:Int):Run S α:=fun s=>(.err e,s)
def a0B (m:Run S α) (f:α→Run S β):Run S β:=fun s=>match m s with
 | (.ok a,t)=>f a t
 | (.err e,t)=>(.err e,t)
 | (.big,t)=>(.big,t)
theorem a0A {m:Run S α} {f:α→Run S β} {s t:S} {a:α} (h:m s=(.ok a,t)):a0B m f s=f a t:=by simp[a0B,h]
theorem a0F {m:Run S α} {f:α→Run S β} {s t:S} {e:Int} (h:m s=(.err e,t)):a0B m f s=(.err e,t):=by simp[a0B,h]
theorem c0I {m:Run S α} {f:α→Run S β} {s:S} (h:(a0B m f s).1≠ .big):(m s).1≠ .big:=by
 intro e;apply h;unfold a0B;split
 ·rename_i a;rw[a]at e;cases e
 ·rename_i a;rw[a]at e;cases e
 ·rfl
theorem p0H {m:Run S α} {f:α→Run S β} {s t:S} {a:α} (h:(a0B m f s).1≠ .big) (b:m s=(.ok a,t)):(f a t).1≠ .big:=by rwa [a0A b]at h
def d0V (f:α→Run S Unit):List α→Run S Unit
 | []=>ret ()
 |x::l=>a0B (f x) fun _=>d0V f l
def s0G (f:β→α→Run S β):β→List α→Run S β
 |b,[]=>ret b
 |b,x::l=>a0B (f b x) fun a=>s0G f a l
end
section
variable {K V:Type} [DecidableEq K]
def a0C (k:K):List (K×V)→Option V
 | []=>none
 | (j,v)::m=>if j=k then some v else a0C k m
def b0O (k:K) (v:V):List (K×V)→List (K×V)
 | []=> [(k,v)]
 | (j,u)::m=>if j=k then(k,v)::m else(j,u)::b0O k v m
def b0D (k:K):List (K×V)→List (K×V)
 | []=> []
 | (j,u)::m=>if j=k then m else(j,u)::b0D k m
end
structure Dk where
 l:List (B×B)
 armed:Bool
 left:Nat
 dead:Bool
 deriving Inhabited
def a0L (n:Nat):B:=List.replicate n 0
def k0W (d:Dk):Out Unit×Dk:=
 if d.dead then(.err 12,d)else if d.armed=false then(.ok (),d)else
 match d.left with
 |0=>(.err 12,{d with dead:=true})
 |n+1=>(.ok (),{d with left:=n})
def n0U (d:Dk) (at_:Int):Out B:=
 if d.dead then .err 12 else if at_<0∨(d.l.length:Int)≤at_ then .err 6 else .ok (d.l.getD at_.toNat ([],[])).2
def e0Y (d:Dk) (at_:Int) (s:B):Out Unit×Dk:=
 if d.dead then(.err 12,d)else if at_<0∨(d.l.length:Int)≤at_ then(.err 6,d)else if 64<s.length then(.err 3,d)else
 match k0W d with
 | (.err e,d')=>(.err e,d')
 | (.big,d')=>(.big,d')
 | (.ok _,d')=>(.ok (),{d' with l:=d'.l.set at_.toNat ((d'.l.getD at_.toNat ([],[])).1,s++a0L (64-s.length))})
def k0Q (n:Nat):Dk:= {l:=List.replicate n (a0L 64,a0L 64),armed:=false,left:=0,dead:=false}
structure Ent where
 id:Int
 parent:Int
 only:Bool
 size:Int
 root:Int
 born:Int
 deriving Inhabited,DecidableEq
inductive c0U where
 |give (at_:Int)
 |back (at_:Int)
 |refs (k:Int) (was:Option Int)
 |young (k:Int) (was:Option Int)
 |index (k:B) (was:Option Int)
 |vols (k:Int) (was:Option Ent)
 |keep (was:Int)
 |gone (was:List Int)
 |next (was:Int)
structure St where
 d:Dk
 fr:Nat
 g:List Nat
 refs:List (Int×Int)
 young:List (Int×Int)
 gone:List Int
 keep:Int
 log:List c0U
 depth:Nat
 bits:Nat
 index:List (B×Int)
 vols:List (Int×Ent)
 next:Int
 epoch:Int
abbrev M (α:Type):=Run St α
def isB (fr:Nat) (l:List Nat) (at_:Int) (a:Nat):Bool:=decide (at_≥fr)&&(decide (at_-fr<l.length)&&decide (l[(at_-fr).toNat]? =some a))
def mvL (fr:Nat) (l:List Nat) (at_:Int) (k to_:Nat):List Nat:=match isB fr l at_ k with|true=>l.set (at_-fr).toNat to_|false=>l
def b0R (fr:Nat) (l:List Nat):Int:=match l.findIdx? (· == 0)with|some i=>(fr+i:Nat)|none=>0
def h0M (l:List Nat):List Nat:=match l.findIdx? (· == 0)with|some i=>l.set i 1|none=>l
def g0B (l:List Nat):List Nat:=l.map fun x=>if x=2 then 0 else x
def f0R {K V:Type} [DecidableEq K] (k:K) (a:Option V) (m:List (K×V)):List (K×V):=match a with
 |some v=>b0O k v m
 |none=>b0D k m
def o0Q (st:c0U) (s:St):St:=match st with
 | .give a=> {s with g:=mvL s.fr s.g a 1 0}
 | .back a=> {s with g:=mvL s.fr s.g a 2 1}
 | .refs k was=> {s with refs:=f0R k was s.refs}
 | .young k was=> {s with young:=f0R k was s.young}
 | .index k was=> {s with index:=f0R k was s.index}
 | .vols k was=> {s with vols:=f0R k was s.vols}
 | .keep w=> {s with keep:=w}
 | .gone w=> {s with gone:=w}
 | .next w=> {s with next:=w}
def e0O (s:St):List c0U→St
 | []=>s
 |st::l=>o0Q st (e0O s l)
def d0M (i0H:Nat) (s:St):St:= {e0O s (s.log.drop i0H)with log:=s.log.take i0H}
def bk (depth:Nat) (log:List c0U) (st:c0U):List c0U:=if 0<depth then log++ [st]else log
def back (st:c0U):M Unit:=fun s=>if 1000000000≤s.log.length then(.big,s)else(.ok (),{s with log:=bk s.depth s.log st})
def x0A (n:Int):M Unit:=a0B (fun s=>back (.keep s.keep) s) fun _ s=>(.ok (),{s with keep:=n})
def h0X (l:List Int):M Unit:=fun s=>if 1000000000≤l.length then(.big,s)else a0B (fun s=>back (.gone s.gone) s) (fun _ s=>(.ok (),{s with gone:=l})) s
def p0Y (n:Int):M Unit:=a0B (fun s=>back (.next s.next) s) fun _ s=>(.ok (),{s with next:=n})
def h0I (k v:Int):M Unit:=a0B (fun s=>back (.refs k (a0C k s.refs)) s) fun _ s=>(.ok (),{s with refs:=b0O k v s.refs})
def m0E (k v:Int):M Unit:=a0B (fun s=>back (.young k (a0C k s.young)) s) fun _ s=>(.ok (),{s with young:=b0O k v s.young})
def f0F (k:B) (v:Int):M Unit:=a0B (fun s=>back (.index k (a0C k s.index)) s) fun _ s=>(.ok (),{s with index:=b0O k v s.index})
def s0R (k:Int) (v:Ent):M Unit:=a0B (fun s=>back (.vols k (a0C k s.vols)) s) fun _ s=>(.ok (),{s with vols:=b0O k v s.vols})
def l0B (k:Int):M Unit:=a0B (fun s=>back (.refs k (a0C k s.refs)) s) fun _ s=>(.ok (),{s with refs:=b0D k s.refs})
def f0M (k:Int):M Unit:=a0B (fun s=>back (.young k (a0C k s.young)) s) fun _ s=>(.ok (),{s with young:=b0D k s.young})
def h0O (k:B):M Unit:=a0B (fun s=>back (.index k (a0C k s.index)) s) fun _ s=>(.ok (),{s with index:=b0D k s.index})
def o0H (k:Int):M Unit:=a0B (fun s=>back (.vols k (a0C k s.vols)) s) fun _ s=>(.ok (),{s with vols:=b0D k s.vols})
def j0Z (x:Int):Int:=(x+9223372036854775808)%18446744073709551616-9223372036854775808
def c0N (s:St) (at_:Int):Int:=(a0C at_ s.refs).getD 0
def h0Y (s:St) (at_:Int):Int:=(a0C at_ s.young).getD 0
def a0Y (s:St):Nat:=s.g.count 0
def d2R (s:St):Nat:=s.g.count 1
def o0R (n:Int):M Unit:=x0A (max n 0)
def t0G (f:Dk→Out Unit×Dk):M Unit:=fun s=>match f s.d with| (o,d)=>(o,{s with d:=d})
def e0S (b:B):M Int:=fun s=>
 if(a0Y s:Int)≤s.keep then(.err 8,s)else
 let a:=b0R s.fr s.g
 a0B (fun s=>back (.give a) {s with g:=h0M s.g}) (fun _=>
 a0B (h0I a 1) fun _=>a0B (m0E a 1) fun _=>a0B (t0G fun d=>e0Y d a b) fun _=>ret a) s
def g0X (at_:Int):M B:=fun s=>if c0N s at_=0 then(.err 6,s)else(n0U s.d at_,s)
def k0S (at_:Int):M Unit:=fun s=>if c0N s at_=0 then(.err 6,s)else h0I at_ (j0Z (c0N s at_+1)) s
def inR (x:Int):Bool:=decide (-9223372036854775808≤x∧x≤9223372036854775807)
def e0G (at_:Int):M Bool:=fun s=>
 if inR at_=false then(.big,s)else if c0N s at_=0 then(.err 6,s)else if c0N s at_=1 then
  a0B (l0B at_) (fun _=>
  a0B (fun s=>back (.back at_) {s with g:=mvL s.fr s.g at_ 1 2}) fun _=>
  a0B (fun s=>if 0<h0Y s at_ then a0B (f0M at_) (fun _ s=>h0X (s.gone++ [at_]) s) s else ret () s) fun _=>ret true) s
 else a0B (h0I at_ (j0Z (c0N s at_-1))) (fun _=>ret false) s
def e0Z (at_:Int):M Bool:=fun s=>
 if inR at_=false then(.big,s)else if 0<c0N s at_ then(.ok false,{s with refs:=b0O at_ (j0Z (c0N s at_+1)) s.refs})
 else if isB s.fr s.g at_ 0=false then(.err 6,s)
 else(.ok true,{s with g:=mvL s.fr s.g at_ 0 1,refs:=b0O at_ 1 s.refs})
def u0F (s:St):St:= {s with g:=s.gone.foldl (fun g a=>mvL s.fr (mvL s.fr g a 2 1) a 1 0) s.g,gone:= []}
def k0T (s:St):St:=if s.depth=1 then {s with depth:=0,log:= []} else {s with depth:=s.depth-1}
def o0I {C:Type} (run:Run (St×C) Unit):Run (St×C) Int:=fun x=>
 if 1000000000≤x.1.depth then(.big,x)else match run ({x.1 with depth:=x.1.depth+1},x.2)with
 | (.ok _,(t,c'))=>if t.depth=0 then(.big,(t,c'))else(.ok 0,(k0T t,c'))
 | (.err e,(t,c'))=>if t.depth=0∨e=0 then(.big,(t,c'))else(.ok e,(k0T (d0M x.1.log.length t),c'))
 | (.big,t)=>(.big,t)
def o0J {C:Type} (run:Run (St×C) Unit):Run (St×C) Int:=a0B (o0I run) fun e x=>(.ok e,(if x.1.depth=0 then u0F x.1 else x.1,x.2))
def be (l:B):Nat:=l.foldl (fun n c=>n*256+c.toNat) 0
def beB (x k:Nat):Nat→B
 |0=> []
 |m+1=>beB x k m++ [UInt8.ofNat (x/256^(k-1-m))]
def a0R (l:B):Bool:=l.all (· == 0)
def g0E (n:Nat) (l:B):B:=l++a0L (n-l.length)
def u64 (x:Int):Nat:=(x%18446744073709551616).toNat
def c0O (n:Nat) (l:B):B:=l.mapIdx fun i c=>if n<8*i+8 then c &&& UInt8.ofNat (255-255/2^(n-8*i))else c
end
end Go.Sb
section
namespace Go.Sl
open Go.Sb
def t0H (ft:TypeId) (e:Int):List PanicEntry:= [{v:= .iface ft (.agg #[.int .i64 e]),recovered:=false}]
def Ran {S α:Type} (ft:TypeId) (R:S→List a0E) (val:α→Value) (o:Out α×S):Ending→List a0E→Prop:=fun en L=>match o with
 | (.ok a,s)=>en= .returned (val a)∧L=R s
 | (.err e,s)=>en= .panicked (t0H ft e)∧L=R s
 | (.big,_)=>False
section
variable {c:Cx} {ops:Array Oper} {Q:Exit→Act→World→Prop} {rest:List Oper} {env:List (Nat×Value)} {L:List a0E}
 {d:Tmp} {ty:TypeId} {pos:String} {af:Array Edge} {fx:Operand} {f:FuncId} {xs:List Operand} {ats:Array TypeId} {first vs cap:List Value} {Pre M:List a0E}
theorem a0U {S α:Type} {ft:TypeId} {R:S→List a0E} {val:α→Value} {o:Out α×S}
 (i:evo env fx=some (.func (.func f) first.toArray cap.toArray)) (hb:f0H c.P f=true) (l:xs.mapM (evo env)=some vs)
 (k:a0G c.P f (first++vs++cap).toArray Pre (Ran ft R val o)) (hL:b0A L Pre M)
 (h: ∀a s,o=(.ok a,s)→OW c ops Q rest ((d,val a)::env) (R s++M))
 (g: ∀e s,o=(.err e,s)→KW c Q (.panic (t0H ft e)) env (R s++M)) (hd:Nat.blt d c.n=true:=by rfl):
 OW c ops Q (⟨some d,.call {callee:= .value fx,args:=xs.toArray,argTypes:=ats},ty,pos,af,none⟩::rest) env L:=by
 refine w0Y i hb l k hL (fun u L' b a w j=> ?_) (fun m L' b=> ?_) (fun L' b=> ?_)
 ·obtain⟨x,s⟩:=o;cases x with
  |ok x=>obtain⟨e,rfl⟩:=b;cases e;exact h x s rfl _ _ (j.put d _ hd)
  |err x=>obtain⟨e,rfl⟩:=b;cases e
  |big=>exact b.elim
 ·obtain⟨x,s⟩:=o;cases x with
  |ok x=>obtain⟨e,rfl⟩:=b;cases e
  |err x=>obtain⟨e,rfl⟩:=b;cases e;exact g x s rfl
  |big=>exact b.elim
 ·obtain⟨x,s⟩:=o;cases x with
  |ok x=>obtain⟨e,rfl⟩:=b;cases e
  |err x=>obtain⟨e,rfl⟩:=b;cases e
  |big=>exact b.elim
end
theorem a0G.ran_ok {P:Program} {f:FuncId} {args:Array Value} {Pre:List a0E} {S α:Type} {ft:TypeId} {R:S→List a0E} {val:α→Value} {a:α} {s:S}
 (h:a0G P f args Pre (Ran ft R val (.ok a,s))):a0G P f args Pre (a0T (val a) (R s)):=h
end Go.Sl
namespace Go.Sl
open Go.Sb
section
variable {P:Program} {n:Nat} {w0:World} {Q:Exit→Act→World→Prop} {env:List (Nat×Value)} {L:List a0E} {fn:Func} {F:a0E}
 {S α:Type} {ft:TypeId} {R:S→List a0E} {val:α→Value} {o:Out α×S}
theorem n0M {a:α} {s:S} {u:Value} {R':List a0E} (b:o=(.ok a,s)) (c: ∀a w,BP P fn (Ran ft R val o) F w0 .ret a w→Q .ret a w) (d:q0H fn env=some u) (hu:u=val a) (hL:b0A L (F::R s) R'):
 CW ⟨P,n,[],w0⟩ .ret Q env L:=by subst b;exact s0A (k1T c d hL.back ⟨by rw[hu],rfl⟩)
theorem x0B {a:α} {s:S} {u:Value} {R':List a0E} (b:o=(.ok a,s)) (c:q0H fn env=some u) (hu:u=val a) (hL:b0A L (F::R s) R'):
 KW ⟨P,n,[],w0⟩ (BP P fn (Ran ft R val o) F w0) .normal env L:=by subst b;exact x0Q c hL.back ⟨by rw[hu],rfl⟩
theorem b0W {e:Int} {s:S} {R':List a0E} (b:o=(.err e,s)) (c: ∀a w,BP P fn (Ran ft R val o) F w0 (.panic (t0H ft e)) a w→Q (.panic (t0H ft e)) a w) (hL:b0A L (F::R s) R'):
 KW ⟨P,n,[],w0⟩ Q (.panic (t0H ft e)) env L:=by subst b;exact d0U c hL.back ⟨rfl,rfl⟩
end
end Go.Sl
end
namespace Go.Sl
open Go.Sb
open Go.BigFrame
section
structure w0C (P:Program) (k:TypeId) {κ:Type} [DecidableEq κ] (ek:κ→Value) (ok:κ→Prop):Prop where
 check: ∀(w:World) (em:Bool) (x:κ),ok x→(Instr.checkKey em 10000 k (ek x)).run P w= .ok () w
 find: ∀(w:World) (x:κ) (m:List (κ×MapEntry)),ok x→(∀p∈m,ok p.1∧p.2.key=ek p.1)→
  (Instr.findKey k (ek x) (m.map (·.2))).run P w= .ok ((m.findIdx? (fun p=>decide (p.1=x))).bind fun j=>(m[j]?).map fun p=>(j,p.2.val)) w
 stays: ∀(w:World) (x:κ),ok x→(Instr.keyThatStays (ek x) (ek x)).run P w= .ok (ek x) w
def b0K {κ ν:Type} (b:Nat) (ek:κ→Value) (ev:ν→Value) (m:List (κ×ν)):a0E:=fun l=>
 ∃(es:List MapEntry) (clk:Nat),es.map (fun e=>(e.key,e.val))=m.map (fun p=>(ek p.1,ev p.2))∧(es.map (·.born)).Nodup∧(∀e∈es,e.born<clk)∧l= [(b,.map es.toArray clk)]
theorem t0I {κ ν:Type} {b:Nat} {ek:κ→Value} {ev:ν→Value} {m:List (κ×ν)} {w:World} {L:List a0E} (h:Sat w (b0K b ek ev m::L)):
 ∃(es:List MapEntry) (clk:Nat),es.map (fun e=>(e.key,e.val))=m.map (fun p=>(ek p.1,ev p.2))∧(es.map (·.born)).Nodup∧(∀e∈es,e.born<clk)∧Sat w (pts b (.map es.toArray clk)::L):=by
 obtain⟨l,⟨k,j,rfl,⟨es,clk,a,c,d,rfl⟩,f⟩,i,g⟩:=h;exact⟨es,clk,a,c,d,_,⟨_,j,rfl,rfl,f⟩,i,g⟩
theorem x0C {κ ν:Type} {b:Nat} {ek:κ→Value} {ev:ν→Value} {m:List (κ×ν)} {w:World} {L:List a0E} {es:List MapEntry} {clk:Nat}
 (a:es.map (fun e=>(e.key,e.val))=m.map (fun p=>(ek p.1,ev p.2))) (c:(es.map (·.born)).Nodup) (d: ∀e∈es,e.born<clk) (h:Sat w (pts b (.map es.toArray clk)::L)):Sat w (b0K b ek ev m::L):=
 h.mono_head fun _ f=>⟨es,clk,a,c,d,f⟩
theorem x0R {κ ν:Type} {b:Nat} (ek:κ→Value) (ev:ν→Value) {w:World} {L:List a0E} (h:Sat w (pts b (.map #[] 0)::L)):Sat w (b0K b ek ev []::L):=
 x0C (es:= []) (clk:=0) rfl (by simp) (by simp) h
theorem k1Y {α β:Type} (f:α→β): ∀(l:List α) (j:Nat),(l.eraseIdx j).map f=(l.map f).eraseIdx j
 | [],_=>rfl
 |_::_,0=>rfl
 |x::l,j+1=>by simp[k1Y f l j]
section
variable {κ ν:Type} [DecidableEq κ] {ek:κ→Value} {ev:ν→Value}
theorem i2N {x:κ} : ∀ {m:List (κ×ν)} {es:List MapEntry},es.map (fun e=>(e.key,e.val))=m.map (fun p=>(ek p.1,ev p.2))→
 (match ((m.zip es).map fun q=>(q.1.1,q.2)).findIdx? (fun p=>decide (p.1=x))with
  |none=>a0C x m=none∧b0D x m=m∧ ∀v,b0O x v m=m++ [(x,v)]
  |some j=> ∃v e,a0C x m=some v∧es[j]? =some e∧e.key=ek x∧e.val=ev v∧b0D x m=m.eraseIdx j∧ ∀u,b0O x u m=m.set j (x,u)):=by
 intro m
 induction m with
 |nil=>intro es h;simp[a0C,b0D,b0O]
 |cons p m ih=>
  intro es h;cases es with
  |nil=>simp at h
  |cons e es=>
   simp only[List.map_cons,List.cons.injEq,Prod.mk.injEq]at h;obtain⟨⟨d,f⟩,h⟩:=h;obtain⟨j,v⟩:=p;simp only[List.zip_cons_cons,List.map_cons,List.findIdx?_cons];by_cases a:j=x
   ·subst a;simp only[decide_true,if_true];exact⟨v,e,by simp[a0C],by simp,d,f,by simp[b0D],fun u=>by simp[b0O]⟩
   ·have i:=ih h;simp only[a,decide_false,Bool.false_eq_true,if_false];cases b:((m.zip es).map fun q=>(q.1.1,q.2)).findIdx? (fun p=>decide (p.1=x))with
    |none=>
     rw[b]at i;simp only[Option.map_none];exact⟨by simp[a0C,a,i.1],by simp[b0D,a,i.2.1],fun u=>by simp[b0O,a,i.2.2 u]⟩
    |some k=>
     rw[b]at i;obtain⟨t,c,g,l,n,o,r,s⟩:=i;simp only[Option.map_some];exact⟨t,c,by simp[a0C,a,g],by simpa using l,n,o,by simp[b0D,a,r],fun u=>by simp[b0O,a,s u]⟩
theorem x2G {ok:κ→Prop} {m:List (κ×ν)} {es:List MapEntry} (b: ∀p∈m,ok p.1) (h:es.map (fun e=>(e.key,e.val))=m.map (fun p=>(ek p.1,ev p.2))):
 (((m.zip es).map fun q=>(q.1.1,q.2)).map (·.2))=es∧ ∀p∈((m.zip es).map fun q=>(q.1.1,q.2)),ok p.1∧p.2.key=ek p.1:=by
 induction m generalizing es with
 |nil=>simp at h;subst h;simp
 |cons p m ih=>
  cases es with
  |nil=>simp at h
  |cons e es=>
   simp only[List.map_cons,List.cons.injEq,Prod.mk.injEq]at h;obtain⟨c,d⟩:=ih (fun q a=>b q (List.mem_cons_of_mem _ a)) h.2;refine⟨by simpa using c,?_⟩;intro q a;simp only[List.zip_cons_cons,List.map_cons,List.mem_cons]at a;rcases a with rfl|a
   ·exact⟨b p List.mem_cons_self,h.1.1⟩
   ·exact d q a
end
section
variable {c:Cx} {ops:Array Oper} {Q:Exit→Act→World→Prop} {rest:List Oper} {env:List (Nat×Value)} {L M:List a0E}
 {d:Tmp} {ty:TypeId} {pos:String} {af:Array Edge} {g:Option (Nat×Bool)} {dd:Option Tmp}
 {κ ν:Type} [DecidableEq κ] {ek:κ→Value} {ev:ν→Value} {ok:κ→Prop}
theorem z0Q {P:Program} {c:TypeId} (K:w0C P c ek ok) {m:List (κ×ν)} {es:List MapEntry} (o: ∀p∈m,ok p.1) (h:es.map (fun e=>(e.key,e.val))=m.map (fun p=>(ek p.1,ev p.2))) (x:κ) (s:ok x) (w:World):
 (a0C x m=none∧b0D x m=m∧(∀v,b0O x v m=m++ [(x,v)])∧(Instr.findKey c (ek x) es).run P w= .ok none w)∨
 (∃j v e,a0C x m=some v∧es[j]? =some e∧e.key=ek x∧e.val=ev v∧b0D x m=m.eraseIdx j∧(∀u,b0O x u m=m.set j (x,u))∧(Instr.findKey c (ek x) es).run P w= .ok (some (j,ev v)) w):=by
 obtain⟨g,y⟩:=x2G o h;have b:=K.find w x ((m.zip es).map fun q=>(q.1.1,q.2)) s y;rw[g]at b;have a:=i2N (x:=x) h;cases hi:((m.zip es).map fun q=>(q.1.1,q.2)).findIdx? (fun p=>decide (p.1=x))with
 |none=>
  rw[hi]at a b;exact .inl ⟨a.1,a.2.1,a.2.2,by rw[b];rfl⟩
 |some j=>
  rw[hi]at a b;obtain⟨v,e,i,d,k,f,l,n⟩:=a;refine .inr ⟨j,v,e,i,d,k,f,l,n,?_⟩;rw[b];have t:((m.zip es).map fun q=>(q.1.1,q.2)).map (·.2)=es:=g;have:(((m.zip es).map fun q=>(q.1.1,q.2))[j]?).map (·.2)=some e:=by rw[←List.getElem?_map,t,d]
  obtain⟨q,r,rfl⟩:=Option.map_eq_some_iff.1 this;simp only[Option.bind_some,r,Option.map_some,f]
theorem d2S {P:Program} {t q l:TypeId} {z:Value} (c:q0I P t q l=true) (K:w0C P q ek ok) (f:h0D P l=some z)
 {m:List (κ×ν)} {es:List MapEntry} {clk b:Nat} (r: ∀p∈m,ok p.1) (h:es.map (fun e=>(e.key,e.val))=m.map (fun p=>(ek p.1,ev p.2))) {w:World} (n:w.heap[b]? =some (.map es.toArray clk)) (x:κ) (o:ok x) (co:Bool):
 (Instr.lookup t (.map (some b)) (ek x) co).run P w= .ok (if co then .tuple #[((a0C x m).map ev).getD z,.bool (a0C x m).isSome]else((a0C x m).map ev).getD z) w:=by
 unfold q0I at c;split at c
 case h_2=>cases c
 rename_i y s hu;simp only[Bool.and_eq_true,beq_iff_eq]at c;obtain⟨rfl,rfl⟩:=c;unfold h0D at f;split at f
 case h_2=>cases f
 rename_i i hi;have a:=K.check w es.toArray.isEmpty x o;have d:(zeroValue s).run P w= .ok z w:=by simp[zeroValue,typeInfo,hi,f]
 rcases z0Q K r h x o w with ⟨g,_,_,k⟩| ⟨j,v,e,g,_,_,_,_,_,k⟩
 ·simp only[Instr.lookup,Sem.run_bind,run_underlying hu,Result.andThen_ok,Go.MapKept.run_getObj_map n,Sem.run_pure,a,k,d,g,Option.map_none,Option.getD_none,Option.isSome_none]
 ·simp only[Instr.lookup,Sem.run_bind,run_underlying hu,Result.andThen_ok,Go.MapKept.run_getObj_map n,Sem.run_pure,a,k,d,g,Option.map_some,Option.getD_some,Option.isSome_some]
theorem s1S {t f e b:Nat} {z:Value} {x y:Operand} {k:κ} {m:List (κ×ν)} {co:Bool} (n:q0I c.P t f e=true) (K:w0C c.P f ek ok) (j: ∀p∈m,ok p.1) (i:ok k) (r:h0D c.P e=some z)
 (o:evo env x=some (.map (some b))) (q:evo env y=some (ek k)) (hL:Fnd L (b0K b ek ev m) M):
 a0P c ⟨dd,.lookup t x y co,ty,pos,af,g⟩ env L (if co then .tuple #[((a0C k m).map ev).getD z,.bool (a0C k m).isSome]else((a0C k m).map ev).getD z):=by
 intro a w d;obtain⟨es,clk,h,s,u,l⟩:=t0I (hL.sat d.sat);have:=d2S n K r j h l.pts k i co;simp only[execOp,d.eval o,d.eval q,Sem.run_bind,this,Result.andThen_ok,Sem.run_pure]
theorem e0Q {t d a b:Nat} {z:Value} {x y:Operand} {k:κ} {m:List (κ×ν)} {f:Option ν→Value} (j:q0I c.P t d a=true) (K:w0C c.P d ek ok) (i: ∀p∈m,ok p.1) (h:ok k) (q:h0D c.P a=some z)
 (l:evo env x=some (.map (some b))) (n:evo env y=some (ek k)) (hL:Fnd L (b0K b ek ev m) M) (e: ∀o:Option ν,(o.map ev).getD z=f o):
 a0P c ⟨dd,.lookup t x y false,ty,pos,af,g⟩ env L (f (a0C k m)):=by
 have:=s1S (c:=c) (dd:=dd) (ty:=ty) (pos:=pos) (af:=af) (g:=g) (co:=false) j K i h q l n hL;simpa [e] using this
theorem o0W {t d a b:Nat} {z:Value} {x y:Operand} {k:κ} {m:List (κ×ν)} {f:Option ν→Value} (j:q0I c.P t d a=true) (K:w0C c.P d ek ok) (i: ∀p∈m,ok p.1) (h:ok k) (q:h0D c.P a=some z)
 (l:evo env x=some (.map (some b))) (n:evo env y=some (ek k)) (hL:Fnd L (b0K b ek ev m) M) (e: ∀o:Option ν,(o.map ev).getD z=f o):
 a0P c ⟨dd,.lookup t x y true,ty,pos,af,g⟩ env L (.tuple #[f (a0C k m),.bool (a0C k m).isSome]):=by
 have:=s1S (c:=c) (dd:=dd) (ty:=ty) (pos:=pos) (af:=af) (g:=g) (co:=true) j K i h q l n hL;simpa [e] using this
theorem k1Z {t l f b:Nat} {x:Operand} {m:List (κ×ν)} (d:q0I c.P t l f=true) (k:evo env x=some (.map (some b))) (hL:Fnd L (b0K b ek ev m) M):
 a0P c ⟨dd,.call {callee:= .builtin .len,args:= #[x],argTypes:= #[t]},ty,pos,af,g⟩ env L (.int .i64 m.length):=by
 intro a w e;obtain⟨es,clk,h,n,o,j⟩:=t0I (hL.sat e.sat);have i:es.length=m.length:=by simpa using congrArg List.length h
 have hb:=j.pts;unfold q0I at d;split at d
 ·rename_i y z hu;rw[execOp_builtin,builtin_len];simp[e.eval k,Builtin.len_,run_underlying hu,goInt,getObj,Sem.run,hb,i]
 ·simp at d
theorem y0W {w:World} {b:Nat} {o:Obj} :({w with heap:=w.heap.setIfInBounds b o} :World)=put w b o:=rfl
theorem d2T {es:List MapEntry} {j:Nat} {e:MapEntry} {f:MapEntry→MapEntry} (h:es[j]? =some e):(es.toArray.modify j f)=(es.set j (f e)).toArray:=by
 apply Array.ext
 ·simp
 ·intro k a c;simp at a;rw[Array.getElem_modify];simp only[List.getElem_toArray,List.getElem_set];split
  ·rename_i b;subst b;rw[List.getElem?_eq_getElem a]at h;rw[Option.some.inj h]
  ·rfl
theorem i0O {t S W b:Nat} {x y u:Operand} {k:κ} {v:ν} {m:List (κ×ν)} (o:q0I c.P t S W=true) (K:w0C c.P S ek ok) (H: ∀p∈m,ok p.1) (G:ok k)
 (A:evo env x=some (.map (some b))) (r:evo env y=some (ek k)) (q:evo env u=some (ev v)) (hL:Fnd L (b0K b ek ev m) M)
 (h:OW c ops Q rest env (b0K b ek ev (b0O k v m)::M)):OW c ops Q (⟨none,.mapUpdate t x y u,ty,pos,af,none⟩::rest) env L:=by
 intro a w d;obtain⟨es,clk,E,R,s,I⟩:=t0I (hL.sat d.sat);have hb:=I.pts;unfold q0I at o;split at o
 case h_2=>cases o
 rename_i Z z' hu;simp only[Bool.and_eq_true,beq_iff_eq]at o;obtain⟨rfl,rfl⟩:=o;have n:=K.check w false k G;refine wpList_plain rfl fun N hN=> ?_;unfold Oper.wp;rcases z0Q K H E k G w with ⟨T,_,C,O⟩| ⟨j,v0,e,T,B,C,O,Y,U,V⟩
 ·have g:(Instr.mapUpdate t (.map (some b)) (ek k) (ev v)).run c.P w= .ok () (put w b (.map (es++ [({key:=ek k,val:=ev v,born:=clk} :MapEntry)]).toArray (clk+1))):=by
   simp only[Instr.mapUpdate,Sem.run_bind,run_underlying hu,Result.andThen_ok,Go.MapKept.run_getObj_map hb,n,O,Go.MapKept.run_setObj_map _ hb,y0W,List.push_toArray]
  simp only[execOp,d.eval A,d.eval r,d.eval q,Sem.run_bind,g,Result.andThen_ok,Sem.run_pure,Oper.upon];refine hN _ _ (h _ _ ⟨d.size,d.slots,d.defers,x0C (es:=es++ [({key:=ek k,val:=ev v,born:=clk} :MapEntry)]) (clk:=clk+1) ?_ ?_ ?_ I.put,d.like.put _ _⟩)
  ·rw[C];simp[E]
  ·rw[List.map_append,List.nodup_append];refine⟨R,by simp,?_⟩;intro x A y r e;obtain⟨D,f,rfl⟩:=List.mem_map.1 A;simp at r;subst r;have:=s D f;omega
  ·intro e l;rcases List.mem_append.1 l with l|l
   ·have:=s e l;omega
   ·simp at l;subst l;simp
 ·have J:=K.stays w k G;have g:(Instr.mapUpdate t (.map (some b)) (ek k) (ev v)).run c.P w= .ok () (put w b (.map (es.set j ({key:=ek k,val:=ev v,born:=e.born} :MapEntry)).toArray clk)):=by
   have X:((es.toArray[j]?).map (·.key)).getD (ek k)=ek k:=by simp[B,C]
   have H:(es.toArray.modify j fun e=> {e with key:=ek k,val:=ev v})=(es.set j ({key:=ek k,val:=ev v,born:=e.born} :MapEntry)).toArray:=d2T B;simp only[Instr.mapUpdate,Sem.run_bind,run_underlying hu,Result.andThen_ok,Go.MapKept.run_getObj_map hb,n,V,X,J,H,Go.MapKept.run_setObj_map _ hb,y0W]
  simp only[execOp,d.eval A,d.eval r,d.eval q,Sem.run_bind,g,Result.andThen_ok,Sem.run_pure,Oper.upon];have F:(es.set j ({key:=ek k,val:=ev v,born:=e.born} :MapEntry)).map (·.born)=es.map (·.born):=by
   rw[List.map_set];apply List.ext_getElem?;intro i;rw[List.getElem?_set];split
   ·rename_i hi;subst hi;split<;>simp_all
   ·rfl
  refine hN _ _ (h _ _ ⟨d.size,d.slots,d.defers,x0C (es:=es.set j ({key:=ek k,val:=ev v,born:=e.born} :MapEntry)) (clk:=clk) ?_ ?_ ?_ I.put,d.like.put _ _⟩)
  ·rw[U,List.map_set,List.map_set,E]
  ·rw[F];exact R
  ·intro D f;rcases List.mem_or_eq_of_mem_set f with f|rfl
   ·exact s D f
   ·exact s e (List.mem_of_getElem? B)
theorem q0N {t F R b:Nat} {i:Nat} {x y:Operand} {k:κ} {m:List (κ×ν)} (n:q0I c.P t F R=true) (K:w0C c.P F ek ok) (S: ∀p∈m,ok p.1) (C:ok k)
 (D:evo env x=some (.map (some b))) (E:evo env y=some (ek k)) (hL:Fnd L (b0K b ek ev m) M)
 (h:OW c ops Q rest env (b0K b ek ev (b0D k m)::M)):OW c ops Q (⟨none,.call {callee:= .builtin .delete,args:= #[x,y],argTypes:= #[t,i]},ty,pos,af,none⟩::rest) env L:=by
 intro a w d;obtain⟨es,clk,r,v,A,s⟩:=t0I (hL.sat d.sat);have hb:=s.pts;unfold q0I at n;split at n
 case h_2=>cases n
 rename_i G V hu;simp only[Bool.and_eq_true,beq_iff_eq]at n;obtain⟨rfl,rfl⟩:=n;have l:=K.check w es.toArray.isEmpty k C;refine wpList_plain rfl fun N hN=> ?_;unfold Oper.wp;rw[execOp_builtin];rcases z0Q K S r k C w with ⟨H,o,I,u⟩| ⟨j,v0,e,H,o,I,u,J,T,O⟩
 ·have g:(Builtin.delete_ #[t,i] ty #[.map (some b),ek k]).run c.P w= .ok (.tuple #[]) (put w b (.map es.toArray clk)):=by
   have f:(Instr.checkKey es.isEmpty 10000 G (ek k)).run c.P w= .ok () w:=by simpa using l
   simp[Builtin.delete_,run_underlying hu,Go.MapKept.run_getObj_map hb,f,u,Go.MapKept.run_setObj_map _ hb,y0W]
  simp only[builtin_delete,List.map_toArray,List.map_cons,List.map_nil,d.eval D,d.eval E,Sem.run_bind,g,Result.andThen_ok,Sem.run_pure,Oper.upon];exact hN _ _ (h _ _ ⟨d.size,d.slots,d.defers,by rw[o];exact x0C r v A s.put,d.like.put _ _⟩)
 ·have U:j<es.length:=by
   rcases Nat.lt_or_ge j es.length with q|q
   ·exact q
   ·rw[List.getElem?_eq_none q]at o;cases o
  have g:(Builtin.delete_ #[t,i] ty #[.map (some b),ek k]).run c.P w= .ok (.tuple #[]) (put w b (.map (es.eraseIdx j).toArray clk)):=by
   have f:(Instr.checkKey es.isEmpty 10000 G (ek k)).run c.P w= .ok () w:=by simpa using l
   have B:es.toArray.eraseIdxIfInBounds j=(es.eraseIdx j).toArray:=by simp
   simp[Builtin.delete_,run_underlying hu,Go.MapKept.run_getObj_map hb,f,O,Go.MapKept.run_setObj_map _ hb,y0W]
  simp only[builtin_delete,List.map_toArray,List.map_cons,List.map_nil,d.eval D,d.eval E,Sem.run_bind,g,Result.andThen_ok,Sem.run_pure,Oper.upon];refine hN _ _ (h _ _ ⟨d.size,d.slots,d.defers,x0C (es:=es.eraseIdx j) (clk:=clk) ?_ ?_ ?_ s.put,d.like.put _ _⟩)
  ·rw[J,k1Y,k1Y,r]
  ·rw[k1Y];exact v.sublist (List.eraseIdx_sublist _ _)
  ·exact fun e B=>A e ((List.eraseIdx_sublist _ _).mem B)
theorem y1E {P:Program} {k:IntKind} {x:Int} : ∀(m:List (Int×MapEntry)),(∀p∈m,p.2.key= .int k p.1)→ ∀i,Instr.findNow (.int k) (.int k x) (m.map (·.2)) i=some ((m.findIdx? (fun p=>decide (p.1=x))).bind fun j=>(m[j]?).map fun p=>(j+i,p.2.val)):=by
 intro m
 induction m with
 |nil=>intro _ i;rfl
 |cons p m ih=>
  intro h i;have c:=h p (by simp);simp only[List.map_cons,Instr.findNow,c,Instr.sameNow,if_true,List.findIdx?_cons];by_cases a:p.1=x
  ·subst a;simp
  ·have b:(x == p.1)=false:=by simp[Ne.symm a]
   simp only[b,a,decide_false,Bool.false_eq_true,if_false];rw[ih (fun q d=>h q (by simp[d])) (i+1)];cases m.findIdx? (fun p=>decide (p.1=x))with
   |none=>simp
   |some j=>
    simp only[Option.bind_some,Option.map_some,List.getElem?_cons_succ];rw[show j+(i+1)=j+1+i by omega]
theorem s1T {P:Program} {t:TypeId} {k:IntKind} (a:y0U P t k=true):w0C P t (fun x:Int=> .int k x) (fun _=>True) where
 check w em x _:=by
  unfold y0U at a;split at a
  case h_2=>cases a
  rename_i j hu;have key: ∀n,(Instr.checkKey em (n+1) t (.int k x)).run P w= .ok () w:=fun n=>by
   simp only[Instr.checkKey,Sem.run_bind,run_underlying hu,Result.andThen_ok,Sem.run_pure]
  exact key 9999
 find w x m _ h:=by
  unfold y0U at a;split at a
  case h_2=>cases a
  rename_i j hu;simp only[beq_iff_eq]at a;subst a;simp only[Instr.findKey,Sem.run_bind,run_underlying hu,Result.andThen_ok,y1E (P:=P) m (fun p c=>(h p c).2) 0,Sem.run_pure,Nat.add_zero]
 stays w x _:=by
  have key: ∀n,Instr.sameBits (n+1) (.int k x) (.int k x)=true:=fun n=>by
   have b:(k == k)=true:=by cases k<;>rfl
   show(k == k&&x == x)=true;rw[b,Bool.true_and];exact beq_self_eq_true x
  unfold Instr.keyThatStays;rw[if_pos (key 9999)];rfl
end
end
end Go.Sl
section
namespace Go.Sl
open Go.BigFrame
section
variable {c:Cx} {ops:Array Oper} {Q:Exit→Act→World→Prop} {rest:List Oper} {env:List (Nat×Value)} {L M:List a0E}
 {d:Tmp} {ty:TypeId} {pos:String} {af:Array Edge} {g:Option (Nat×Bool)} {dd:Option Tmp} {y:Code}
def b1L (a:Option Addr) (l m size:Nat):Option Addr:=if m=l then a else a.map (·.add (l*size))
theorem i1Q {t e n:TypeId} {x u:Operand} {a:Option Addr} {len cap:Nat} {k:IntKind} {hi:Int} (j:c0X c.P t e n=true) (m:evo env x=some (.slice a len cap)) (hu:evo env u=some (.int k hi)) (hb:0≤hi∧hi≤cap):
 a0P c ⟨dd,.slice t x none (some u) none,ty,pos,af,g⟩ env L (.slice a hi.toNat cap):=by
 intro o w h;simp only[c0X,Bool.and_eq_true]at j;obtain⟨b,d⟩:=j;split at b
 case h_2=>cases b
 rename_i p l;split at d
 case h_2=>cases d
 rename_i i f;simp only[beq_iff_eq]at b;subst b;have:a.map (fun x:Addr=>x.add (0*i.size))=a:=by cases a<;>simp[Addr.add]
 simp only[execOp,h.eval m,h.eval hu,Instr.sliceAt,Option.map_some,Option.map_none,Sem.run_bind,run_underlying l,Result.andThen_ok,Instr.slice,Instr.sliceBounds,Instr.sliceBound,asIntOf,Sem.run_pure];simp[hb.1,hb.2,sizeOf,typeInfo,f,Addr.add]
theorem p1N {t e n:TypeId} {x u v:Operand} {a:Option Addr} {len cap:Nat} {k j:IntKind} {hi mx:Int} (l:c0X c.P t e n=true) (r:evo env x=some (.slice a len cap)) (hu:evo env u=some (.int k hi)) (q:evo env v=some (.int j mx)) (hb:0≤hi∧hi≤mx∧mx≤cap):
 a0P c ⟨dd,.slice t x none (some u) (some v),ty,pos,af,g⟩ env L (.slice a hi.toNat mx.toNat):=by
 intro s w f;simp only[c0X,Bool.and_eq_true]at l;obtain⟨b,d⟩:=l;split at b
 case h_2=>cases b
 rename_i y p;split at d
 case h_2=>cases d
 rename_i i h;simp only[beq_iff_eq]at b;subst b;have m:0≤mx:=by omega
 have o:hi≤max mx 0:=by omega
 simp only[execOp,f.eval r,f.eval hu,f.eval q,Instr.sliceAt,Option.map_some,Option.map_none,Sem.run_bind,run_underlying p,Result.andThen_ok,Instr.slice,Instr.sliceBounds,Instr.sliceBound,asIntOf,Sem.run_pure];simp[hb.1,hb.2,m,o,sizeOf,typeInfo,h,Addr.add]
theorem s1U {t e n:TypeId} {x u:Operand} {a:Option Addr} {len cap:Nat} {k:IntKind} {lo:Int} (j:c0X c.P t e n=true) (m:evo env x=some (.slice a len cap)) (hu:evo env u=some (.int k lo)) (hb:0≤lo∧lo≤len) (q:len≤cap):
 a0P c ⟨dd,.slice t x (some u) none none,ty,pos,af,g⟩ env L (.slice (b1L a lo.toNat cap n) (len-lo.toNat) (cap-lo.toNat)):=by
 intro o w h;simp only[c0X,Bool.and_eq_true]at j;obtain⟨b,d⟩:=j;split at b
 case h_2=>cases b
 rename_i p l;split at d
 case h_2=>cases d
 rename_i i f;simp only[beq_iff_eq]at b d;subst b;subst d;simp only[execOp,h.eval m,h.eval hu,Instr.sliceAt,Option.map_some,Option.map_none,Sem.run_bind,run_underlying l,Result.andThen_ok,Instr.slice,Instr.sliceBounds,Instr.sliceBound,asIntOf,Sem.run_pure];simp[hb.1,hb.2,sizeOf,typeInfo,f,b1L]
theorem n0N {p:Prop} (hL:Fnd L (m0X p) M) (h:p→CW c y Q env L):CW c y Q env L:=fun a w b=>h (u0D.1 (hL.sat b.sat)).1 a w b
theorem n0V {p:Prop} (a:p) (w:World) (h:Sat w L):Sat w (m0X p::L):=u0D.2 ⟨a,h⟩
theorem z2O {α:Type} {A:α→a0E} (hL:Fnd L (ex A) M) (h: ∀x,CW c y Q env (A x::M)):CW c y Q env L:=fun a w b=>by
 obtain⟨x,d⟩:=g0K.1 (hL.sat b.sat);exact h x a w ⟨b.size,b.slots,b.defers,d,b.like⟩
theorem l0C {N:List a0E} (hL:Fnd L (b0E N) M) (h:CW c y Q env (N++M)):CW c y Q env L:=fun a w b=>h a w ⟨b.size,b.slots,b.defers,b0M.1 (hL.sat b.sat),b.like⟩
theorem v0M {α:Type} {N:α→List a0E} (hL:Fnd L (ex fun x=>b0E (N x)) M) (h: ∀x,CW c y Q env (N x++M)):CW c y Q env L:=z2O hL fun x=>l0C Fnd.here (h x)
theorem x2H {e:TypeId} {size:Nat} {v:Value} {n:Nat} {xs:List Value} {w:World} (h:Sat w (b0I e size v n xs::L)) (d:0<n): ∃b cap,v= .slice (some ⟨b,0,none⟩) n cap∧n≤cap:=by
 obtain⟨_,c⟩:=f0O h;rcases c with ⟨_,rfl,_⟩| ⟨b,cap,cur,rfl,a,_⟩
 ·omega
 ·exact⟨b,cap,rfl,a⟩
theorem i0T {e:TypeId} {size:Nat} {v:Value} {n:Nat} {xs:List Value} (hL:Fnd L (b0I e size v n xs) M) (g:0<n) (h: ∀b cap,v= .slice (some ⟨b,0,none⟩) n cap→n≤cap→CW c y Q env L):CW c y Q env L:=fun a w d=>by
 obtain⟨b,cap,i,f⟩:=x2H (hL.sat d.sat) g;exact h b cap i f a w d
theorem n0W {e:TypeId} {size:Nat} {v:Value} {n:Nat} {xs:List Value} (hL:Fnd L (b0I e size v n xs) M) (h: ∀p cap,v= .slice p n cap→n≤cap→xs.length=n*size→CW c y Q env L):CW c y Q env L:=fun a w d=>by
 obtain⟨f,i⟩:=f0O (hL.sat d.sat);rcases i with ⟨rfl,rfl,_⟩| ⟨b,cap,cur,rfl,g,_⟩
 ·exact h none 0 rfl (Nat.le_refl _) f a w d
 ·exact h _ cap rfl g f a w d
theorem a0X {x:Operand} {t:TypeId} {b o cap n size:Nat} {e:TypeId} {xs:List Value} {v:Value} (q:f0Q c.P t=true) (r:evo env x=some (.pointer (some ⟨b,o,none⟩)))
 (hL:Fnd L (b0I e size (.slice (some ⟨b,0,none⟩) n cap) n xs) M) (f:nth xs o=some v):a0P c ⟨dd,.load t x,ty,pos,af,g⟩ env L v:=by
 intro a w i;obtain⟨A,m⟩:=f0O (hL.sat i.sat);rcases m with ⟨j,_⟩| ⟨s,k,cur,j,u,y,z,l,p⟩
 ·cases j
 ·simp only[Value.slice.injEq,Option.some.injEq,Addr.mk.injEq]at j;obtain⟨⟨rfl,_,_⟩,_,rfl⟩:=j;have h:nth cur o=some v:=by
   rw[e0F]at f ⊢;rw[←l]at f;rw[List.getElem?_take]at f;split at f
   ·exact f
   ·cases f
  have:Fnd (pts b (.cells cur.toArray e (0,0))::M) (pts b (.cells cur.toArray e (0,0))) M:=Fnd.here;exact b0N (c:=c) (L:=pts b (.cells cur.toArray e (0,0))::M) (M:=M) (d:=dd) (g:=g) (ty:=ty) (pos:=pos) (af:=af) q r h a w ⟨i.size,i.slots,i.defers,p,i.like⟩
theorem d2U {e:TypeId} {size b n k cap:Nat} {xs:List Value} {w:World} (j:k≤n) (h:Sat w (b0I e size (.slice (some ⟨b,0,none⟩) n cap) n xs::L)):Sat w (b0I e size (.slice (some ⟨b,0,none⟩) k cap) k (xs.take (k*size))::L):=by
 obtain⟨p,i⟩:=f0O h;rcases i with ⟨a,_⟩| ⟨m,c,cur,a,o,d,f,g,l⟩
 ·cases a
 ·simp only[Value.slice.injEq,Option.some.injEq,Addr.mk.injEq]at a;obtain⟨⟨rfl,_,_⟩,_,rfl⟩:=a;refine r0J l (by omega) d f ?_;rw[←g,List.take_take,Nat.min_eq_left (Nat.mul_le_mul_right _ j)]
end
end Go.Sl
namespace Go.Sl
theorem j0J {P:Program} {f:FuncId} {args:Array Value} {Pre L M N a R:List a0E} {v:Value} (h:a0G P f args Pre (a0T v N)) (hL:b0A L Pre M) (hN:b0A (N++M) a R):a0G P f args L (a0T v a):=by
 intro w F m;have k:Sat w (Pre++ [b0E (F::M)]):=by
  have c:Sat w ((Pre++M)++ [F]):=m.perm (hL.append_right [F]);have d:Sat w ((F::M)++Pre):=c.perm (by
   refine(List.perm_append_comm (l₁:=Pre++M) (l₂:= [F])).trans ?_;exact(List.Perm.cons F (List.perm_append_comm (l₁:=Pre) (l₂:=M)):(F::(Pre++M)).Perm (F::(M++Pre))))
  exact(b0M.2 d).perm (List.perm_append_comm (l₁:= [b0E (F::M)]))
 refine(h w _ k).mono ?_;rintro e b ⟨L',⟨rfl,rfl⟩,g,l⟩;have c:Sat b ((F::M)++L'):=b0M.1 (g.perm List.perm_append_comm);have d:Sat b ((a++R)++ [F]):=by
  have i:Sat b (F::(L'++M)):=c.perm (List.Perm.cons F List.perm_append_comm);exact(i.perm (List.Perm.cons F hN)).perm (List.perm_append_comm (l₁:= [F]))
 have j:Sat b (R++(a++ [F])):=d.perm (by
  rw[List.append_assoc];exact(List.perm_append_comm (l₁:=a) (l₂:=R++ [F])).trans (by rw[List.append_assoc];exact List.Perm.append_left R List.perm_append_comm))
 exact⟨a,⟨rfl,rfl⟩,j.drop,l⟩
end Go.Sl
namespace Go.Sl
theorem i1R {P:Program} {f:FuncId} {args:Array Value} {Pre Pre':List a0E} {Post:Ending→List a0E→Prop} (a: ∀w F,Sat w (Pre'++F)→Sat w (Pre++F)) (h:a0G P f args Pre Post):a0G P f args Pre' Post:=
 fun w F b=>h w F (a w [F] b)
theorem k0N {P:Program} {f:FuncId} {args:Array Value} {N M:List a0E} {Post:Ending→List a0E→Prop} (h:a0G P f args (N++M) Post):a0G P f args (b0E N::M) Post:=
 i1R (fun w F b=>by
  have a:Sat w (b0E N::(M++F)):=b;have c:=b0M.1 a
  rwa [List.append_assoc]) h
theorem g0F {P:Program} {f:FuncId} {args:Array Value} {Pre N:List a0E} {v:Value} {X:Type} {p:X→Prop} {c:X→Value} {b:X→List a0E} (x:X) (k:p x) (j:v=c x) (hN:N=b x) (h:a0G P f args Pre (a0T v N)):a0G P f args Pre (b0P p c b):=
 fun w F i=>(h w F i).mono fun e l ⟨L',⟨d,hL⟩,a,g⟩=>⟨L',⟨x,k,by rw[d,j],by rw[hL,hN]⟩,a,g⟩
theorem Sat.re {w:World} {L M:List a0E} (h:Sat w L) (hL:b0A L M []):Sat w M:=by have:=h.perm hL;rwa [List.append_nil]at this
end Go.Sl
namespace Go.Sl
theorem i2O {c:Cx} {Q:Exit→Act→World→Prop} {env:List (Nat×Value)} {L M:List a0E} {y:Code} {e:TypeId} {size b n k cap:Nat} {xs:List Value} (hL:Fnd L (b0I e size (.slice (some ⟨b,0,none⟩) n cap) n xs) M) (f:k≤n)
 (h:CW c y Q env (b0I e size (.slice (some ⟨b,0,none⟩) k cap) k (xs.take (k*size))::M)):CW c y Q env L:=fun a w d=>h a w ⟨d.size,d.slots,d.defers,d2U f (hL.sat d.sat),d.like⟩
end Go.Sl
end
namespace Go.Sl
section
theorem y1F {P:Program} {f:FuncId} {fn:Func} {y:Code} {args:List Value} {u:FrameMode} {Pre:List a0E} {Post:Ending→FrameMode→List a0E→Prop} {n:Nat}
 (r:P.funcs[f]? =some fn) (hb:fn.body=some y) (x:fn.ntmps=n) (b:Nat.ble args.length n=true)
 (h: ∀F w0,CW ⟨P,n,[],w0⟩ y (BP P fn (fun e L=>Post e u L) F w0) (j0X 0 args) (Pre++ [F])):b1K P f args.toArray u Pre Post:=by
 have s:args.length≤n:=Nat.le_of_ble_eq_true b;intro w F c;refine callsD_of_wpS r hb fun i cs hu=> ?_;have m:b0J ⟨P,n,[],w⟩ (j0X 0 args) (Pre++ [F]) {tmps:=args.toArray++Array.replicate (fn.ntmps-args.toArray.size) undef,defers:= []} w:=by
  refine⟨by simp[x];omega,?_,rfl,c,d0S.refl w⟩;intro t v z;obtain⟨_,j⟩:=r0H args 0 t v z;simp only[Nat.sub_zero]at j;have o:t<args.length:=by
   rcases Nat.lt_or_ge t args.length with k|k
   ·exact k
   ·rw[List.getElem?_eq_none k]at j;cases j
  rw[Array.getElem?_append_left (by simpa using o)];simpa using j
 subst hu;refine wpS_of_wp (wp_mono (h F w _ w m) ?_);rintro e A B q;have l:i::cs= {i with mode:=i.mode} ::cs:=by cases i;rfl
 cases e with
 |normal=>obtain⟨d,v,g,p⟩:=q;exact⟨d,_,l,v,g,p⟩
 |ret=>obtain⟨d,v,g,p⟩:=q;exact⟨d,_,l,v,g,p⟩
 |panic ch=>obtain⟨d,g⟩:=q;exact⟨d,_,l,g⟩
 |outgrown=>exact⟨_,q⟩
 |exit _=>exact q.elim
 |goto _=>exact q.elim
section
variable {P:Program} {n:Nat} {w0:World} {Q:Exit→Act→World→Prop} {env:List (Nat×Value)} {L:List a0E} {fn:Func} {Post:Ending→List a0E→Prop} {F:a0E} {f:FuncId} {cap args:List Value}
theorem l1A {e:Exit} (C:e= .normal∨e= .ret) (G: ∀a w,BPD P fn Post F w0 e a w→Q e a w) {v:Value} (g:q0H fn env=some v) (hb:f0H P f=true) {Pre M:List a0E} {X:Type} {p:X→Prop} {N:X→List a0E}
 (H:b1K P f (args++cap).toArray .returning Pre (fun e k L'=> ∃x,p x∧(∃v,e= .returned v)∧settle k= .returning∧L'=N x)) (hL:b0A L Pre M) (A: ∀x,p x→ ∃L' R,b0A (N x++M) (F::L') R∧Post (.returned v) L'):
 KW ⟨P,n,[{target:= .fn (.func f) cap.toArray,args:=args.toArray}],w0⟩ Q e env L:=by
 intro a w d;have i:Sat w (Pre++ [b0E M]):=by
  have l:=d.sat.perm hL;have z:Sat w (b0E M::Pre):=b0M.2 (l.perm List.perm_append_comm);exact z.perm (List.perm_append_comm (l₁:= [b0E M]) (l₂:=Pre))
 have h:(invoke (.fn (.func f) cap.toArray) args.toArray).run P w= .ok (.enter f (args++cap).toArray) w:=by
  simp only[invoke];rw[show(args.toArray++cap.toArray)=(args++cap).toArray by simp];exact t0C hb _ w
 have r:Leaves P fn a.tmps (fun e b=> ∃L',Post e L'∧Sat b (L'++ [F])∧d0S w0 b) a.defers .returning w:=by
  rw[d.defers];refine⟨by simp,_,_,f,(args++cap).toArray,rfl,h,?_⟩;intro t cs B;obtain⟨y,k,b,fr,⟨K,⟨x,J,⟨O,I⟩,j,rfl⟩,s,D⟩,o⟩:=H w (b0E M) i t cs B;refine⟨y,k,b,fr,?_,o⟩;subst I;show Leaves P fn a.tmps _ [] (settle k) b;rw[j];obtain⟨L',R,m,E⟩:=A x J;have c:Sat b (N x++M):=by
   have l:Sat b (b0E M::N x):=s.perm (List.perm_append_comm (l₁:=N x) (l₂:= [b0E M]));exact(b0M.1 l).perm List.perm_append_comm
  refine⟨v,?_,L',E,((c.perm m.back).perm List.perm_append_comm).drop,d.like.trans D⟩;have q:b0J ⟨P,n,[{target:= .fn (.func f) cap.toArray,args:=args.toArray}],b⟩ env [] a b:=⟨d.size,d.slots,d.defers,Sat.nil b,d0S.refl b⟩;exact b1G q g
 refine G a w ?_;rcases C with rfl|rfl<;>exact r
end
end
end Go.Sl

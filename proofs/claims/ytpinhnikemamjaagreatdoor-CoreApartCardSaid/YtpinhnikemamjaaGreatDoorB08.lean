/- Part of the proof; no statement of its own. -/
import Derived.Test.YtpinhnikemamjaaGreatDoorB07
import Derived.Test.YtpinhnikemamjaaGreatDoorB06
import Derived.Test.YtpinhnikemamjaaGreatDoorB05
import Derived.KernelRfl
import Derived.Test.YtpinhnikemamjaaGreatDoorProg
import Derived.Test.YtpinhnikemamjaaGreatDoorB04
import Derived.ChangeKeysEq
set_option linter.all false
set_option maxRecDepth 4000
set_option maxHeartbeats 4000000
namespace Go.Sl
section
class Ag (P:Program) (t:Nat) (n:outParam Nat):Prop where o:o0D P t n=true
class Fl (P:Program) (s f:Nat) (k:outParam Nat):Prop where o:j1V P s f k=true
class Sc (P:Program) (t:Nat):Prop where o:i0B P t=true
class Sz (P:Program) (t:Nat) (n:outParam Nat):Prop where o:v0T P t n=true
class Zr (P:Program) (t:Nat) (z:outParam Value):Prop where o:g0L P t=some z
class Pl (P:Program) (t:Nat) (z:outParam (List (Nat×Nat)×Value)):Prop where o:f1I P t=some z
class Hb (P:Program) (f:Nat):Prop where o:f0J P f=true
class Tsl (P:Program) (t:Nat) (e n:outParam Nat):Prop where o:d0A P t e n=true
class Tar (P:Program) (t:Nat) (l e n:outParam Nat):Prop where o:k0D P t l e n=true
class Tin (P:Program) (t:Nat) (k:outParam IntKind):Prop where o:w0Y P t k=true
class Tsn (P:Program) (t:Nat):Prop where o:(P.underlying t).isSome=true
class Tst (P:Program) (t:Nat):Prop where o:f0Q P t=true
class Tby (P:Program) (t:Nat):Prop where o:z0B P t=true
class e0T (P:Program) (t:Nat) (k e:outParam Nat):Prop where o:q0X P t k e=true
class Ttb (P:Program) (t:Nat) (n:outParam Nat):Prop where o:q0B P t n=true
class Fol (P:Program):Prop where o:P.follows .mixedOrders=true
theorem gT {b:Bool} (h:b=true:=by first|rfl|exact decide_eq_true (by omega)):b=true:=h
theorem gF {b:Bool} (h:b=false:=by first|rfl|exact decide_eq_false (by omega)):b=false:=h
theorem gFd {L M:List a0E} {a:a0E} (h:Fnd L a M:=by repeat (first|exact Fnd.here|apply Fnd.there)):Fnd L a M:=h
theorem gSp {L N M:List a0E} (h:b0L L N M:=by repeat (first|exact b0L.nil|apply b0L.cons (by repeat (first|exact Fnd.here|apply Fnd.there)))):b0L L N M:=h
theorem gSu {L M:List (Nat×Value)} (h:Sub L M:=by repeat (first|exact Sub.nil|refine Sub.cons rfl ?_)):Sub L M:=h
section
variable {c:Cx} {env:List (Nat×Value)} {L:List a0E} {v:Value} {o:Oper}
theorem yLw (h:a0L c o env L v:=by first
 |exact l0R rfl|exact o1Q rfl|exact b0T Sc.o rfl (by rfl)|exact d1G Fl.o rfl|exact s2L rfl
 |exact o1R rfl rfl (by omega)|exact m2M rfl rfl|exact s2V rfl rfl|exact y1X rfl rfl|exact y1Y rfl rfl
 |exact o0V rfl gT rfl|exact n0R rfl gF rfl
 |exact s2U Tsl.o rfl rfl (by omega)|exact h1D Tar.o rfl rfl (by omega)
 |exact q2M rfl rfl (by omega)|exact q2N rfl rfl (by omega)|exact h1C Tsn.o Tin.o rfl
 |exact d2F Tst.o rfl|exact q0T Tsl.o rfl|exact s2P rfl rfl|exact s2O rfl rfl|exact s2Q rfl rfl
 |exact r0J Pl.o rfl (by simp[d0B,nth,Value.cells]<;>rfl)
 |exact h1B rfl|exact q2P rfl rfl rfl|exact q2O rfl rfl (by omega)|exact h1A rfl rfl (by omega)
 |exact a0O Ag.o rfl (by simp) (by rfl)
 |exact s2T rfl rfl|exact s2S rfl rfl):a0L c o env L v:=h
end
structure Imp (r p:Prop):Prop where h:r→p
section
variable {c:Cx} {ops:Array Oper} {Q:Exit→Act→World→Prop} {rest:List Oper} {env:List (Nat×Value)} {L K:List a0E} {Qs:List (Nat×Value)→Prop} {steps:m0Q} {plan:j0B} {Js:List p0K} {i:Nat}
 {d:Tmp} {op:Op} {ty:TypeId} {pos:String} {af:Array Edge} {v:Value} {j t:Nat} {want b:Bool} {x y body:Code} {z:Operand}
theorem qI1 (hy:a0L c ⟨some d,op,ty,pos,af,none⟩ env L v) (hd:Nat.blt d c.n=true):Imp (OW c ops Q rest ((d,v)::env) L) (OW c ops Q (⟨some d,op,ty,pos,af,none⟩::rest) env L):=⟨fun h=>a0F hy h hd⟩
theorem qI2 (hj:(ops[j]?).bind (·.dst)=some t) (ht:c0O env t=some (.bool b)) (hb:(b == want)=true) (hy:a0L c ⟨some d,op,ty,pos,af,some (j,want)⟩ env L v) (hd:Nat.blt d c.n=true):
 Imp (OW c ops Q rest ((d,v)::env) L) (OW c ops Q (⟨some d,op,ty,pos,af,some (j,want)⟩::rest) env L):=⟨fun h=>g0M hy (fun _ _ hh=>(b0E rfl hj ht hh).trans hb) h hd⟩
theorem qI3 (hj:(ops[j]?).bind (·.dst)=some t) (ht:c0O env t=some (.bool b)) (hb:(b == want)=false) (hd:Nat.blt d c.n=true):
 Imp (OW c ops Q rest ((d,undef)::env) L) (OW c ops Q (⟨some d,op,ty,pos,af,some (j,want)⟩::rest) env L):=⟨fun h=>f0D rfl (fun _ _ hh=>(b0E rfl hj ht hh).trans hb) h hd⟩
theorem qI4:Imp (KW c Q .normal env L) (OW c ops Q [] env L):=⟨q2Q⟩
theorem qI5:Imp (CW c x (Exit.then (y.wp c.P Q) Q) env L) (CW c (x.seq y) Q env L):=⟨o1S⟩
theorem qI6 {l:List Oper} :Imp (OW c l.toArray Q l env L) (CW c (.region i l.toArray false) Q env L):=⟨d2G⟩
theorem qI7:Imp (KW c Q .normal env L) (CW c .skip Q env L):=⟨n2D⟩
theorem qI8:Imp (CW c body (Exit.inBlock i Q) env L) (CW c (.block i body) Q env L):=⟨i2B⟩
theorem qI9:Imp (KW c Q (.exit i) env L) (CW c (.exit i) Q env L):=⟨n2E⟩
theorem qI10 (hz:evo env z=some (.bool b)) (hb:b=true):Imp (CW c x Q env L) (CW c (.cond z x y) Q env L):=⟨d0W hz hb⟩
theorem qI11 (hz:evo env z=some (.bool b)) (hb:b=false):Imp (CW c y Q env L) (CW c (.cond z x y) Q env L):=⟨c0C hz hb⟩
theorem qI12 {l:List Oper} (hm:c.P.follows .mixedOrders=true) (hB:Region.lexB .any l.toArray=true):Imp (OS c l.toArray L (fun env'=>KW c Q .normal env' L) l env) (CW c (.region i l.toArray true) Q env L):=⟨n2H hm hB⟩
theorem qI13 {R:List a0E} (hK:b0L L K R):Imp (OM c ops Q K steps env L) (KW c (Exit.then (KM c ops Q K steps) Q) .normal env L):=⟨n2J hK⟩
theorem qI14 {e:Exit} {Q':Exit→Act→World→Prop} (hq: ∀a w,y.wp c.P Q' a w→Q e a w):Imp (CW c y Q' env L) (KW c Q e env L):=⟨n2F hq⟩
theorem qI15 (hi:ops[i]? =some ⟨some d,op,ty,pos,af,none⟩) (hy:a0L c ⟨some d,op,ty,pos,af,none⟩ env K v) (hd:Nat.blt d c.n=true):Imp (OM c ops Q K steps ((d,v)::env) L) (OM c ops Q K (.soft i steps) env L):=⟨fun h=>d0D hi hy h hd⟩
theorem qI16 (hi:ops[i]? =some ⟨some d,op,ty,pos,af,some (j,want)⟩) (hj:(ops[j]?).bind (·.dst)=some t) (ht:c0O env t=some (.bool b)) (hb:(b == want)=true) (hy:a0L c ⟨some d,op,ty,pos,af,some (j,want)⟩ env K v) (hd:Nat.blt d c.n=true):
 Imp (OM c ops Q K steps ((d,v)::env) L) (OM c ops Q K (.soft i steps) env L):=⟨fun h=>n0M hi hy (fun _ _ hh=>(b0E rfl hj ht hh).trans hb) h hd⟩
theorem qI17 (hi:ops[i]? =some ⟨some d,op,ty,pos,af,some (j,want)⟩) (hj:(ops[j]?).bind (·.dst)=some t) (ht:c0O env t=some (.bool b)) (hb:(b == want)=false) (hd:Nat.blt d c.n=true):
 Imp (OM c ops Q K steps ((d,undef)::env) L) (OM c ops Q K (.soft i steps) env L):=⟨fun h=>n2I hi rfl (fun _ _ hh=>(b0E rfl hj ht hh).trans hb) h hd⟩
theorem qI18 {o:Oper} (hi:ops[i]? =some o):Imp (OW c ops (Exit.then (KM c ops Q K steps) Q) [o] env L) (OM c ops Q K (.hard i steps) env L):=⟨om_h hi⟩
theorem qI19:Imp (KW c Q .normal env L) (OM c ops Q K .done env L):=⟨q2S⟩
theorem qI20 (hy:a0L c ⟨some d,op,ty,pos,af,none⟩ env L v) (hd:Nat.blt d c.n=true):Imp (OS c ops L Qs rest ((d,v)::env)) (OS c ops L Qs (⟨some d,op,ty,pos,af,none⟩::rest) env):=⟨fun h=>c0K hy h hd⟩
theorem qI21 (hj:(ops[j]?).bind (·.dst)=some t) (ht:c0O env t=some (.bool b)) (hb:(b == want)=true) (hy:a0L c ⟨some d,op,ty,pos,af,some (j,want)⟩ env L v) (hd:Nat.blt d c.n=true):
 Imp (OS c ops L Qs rest ((d,v)::env)) (OS c ops L Qs (⟨some d,op,ty,pos,af,some (j,want)⟩::rest) env):=⟨fun h=>m2N (fun _ _ hh=>(b0E rfl hj ht hh).trans hb) hy h hd⟩
theorem qI22 (hj:(ops[j]?).bind (·.dst)=some t) (ht:c0O env t=some (.bool b)) (hb:(b == want)=false) (hd:Nat.blt d c.n=true):
 Imp (OS c ops L Qs rest ((d,undef)::env)) (OS c ops L Qs (⟨some d,op,ty,pos,af,some (j,want)⟩::rest) env):=⟨fun h=>n2G (fun _ _ hh=>(b0E rfl hj ht hh).trans hb) rfl h hd⟩
theorem qI23:Imp (Qs env) (OS c ops L Qs [] env):=⟨q2R⟩
theorem qI24 (hi:ops[i]? =some ⟨some d,op,ty,pos,af,none⟩) (hy:a0L c ⟨some d,op,ty,pos,af,none⟩ env K v) (hfr:(Js.all fun p=> !Nat.beq p.d d&&(c0O p.e0 d).isNone)=true) (hd:Nat.blt d c.n=true):
 Imp (OMf c ops Q K Js plan ((d,v)::env) L) (OMf c ops Q K Js (.soft i plan) env L):=⟨fun h=>i0A hi hy h hfr hd⟩
theorem qI25 (hi:ops[i]? =some ⟨some d,op,ty,pos,af,some (j,want)⟩) (hj:(ops[j]?).bind (·.dst)=some t) (ht:c0O env t=some (.bool b)) (hb:(b == want)=true) (hy:a0L c ⟨some d,op,ty,pos,af,some (j,want)⟩ env K v)
 (hfr:(Js.all fun p=> !Nat.beq p.d d&&(c0O p.e0 d).isNone)=true) (hd:Nat.blt d c.n=true):
 Imp (OMf c ops Q K Js plan ((d,v)::env) L) (OMf c ops Q K Js (.soft i plan) env L):=⟨fun h=>q2T hi hy (fun _ _ hh=>(b0E rfl hj ht hh).trans hb) h hfr hd⟩
theorem qI26 (hi:ops[i]? =some ⟨some d,op,ty,pos,af,some (j,want)⟩) (hj:(ops[j]?).bind (·.dst)=some t) (ht:c0O env t=some (.bool b)) (hb:(b == want)=false)
 (hfr:(Js.all fun p=> !Nat.beq p.d d&&(c0O p.e0 d).isNone)=true) (hd:Nat.blt d c.n=true):
 Imp (OMf c ops Q K Js plan ((d,undef)::env) L) (OMf c ops Q K Js (.soft i plan) env L):=⟨fun h=>i2C hi rfl (fun _ _ hh=>(b0E rfl hj ht hh).trans hb) h hfr hd⟩
theorem qI27:Imp (KW c Q .normal env L) (OMf c ops Q K [] .done env L):=⟨n2K⟩
theorem qI28 {t:TypeId} {x y:Operand} {b o:Nat} {cs:List Value} {e:TypeId} {v:Value} {M:List a0E} {cs':List Value} [ht:Sz c.P t 1] (hx:evo env x=some (.pointer (some ⟨b,o,none⟩))) (hy:evo env y=some v) (h1:v.oneCell'=true)
 [hL:p0J L b (.cells cs.toArray e (0,0)) M] (ho:Nat.blt o cs.length=true) (hc:cs.set o v=cs'):Imp (OW c ops Q rest env (pts b (.cells cs'.toArray e (0,0))::M)) (OW c ops Q (⟨none,.store t x y,ty,pos,af,none⟩::rest) env L):=
 ⟨fun h=>d0V ht.o hx hy h1 ho hc h⟩
end
theorem gY {b want:Bool} (h:(b == want)=true:=by first|rfl|exact wTT gT|exact wFF gF):(b == want)=true:=h
theorem gN {b want:Bool} (h:(b == want)=false:=by first|rfl|exact wTF gF|exact wFT gT):(b == want)=false:=h
theorem sTp {r p:Prop} (h:Imp r p:=by first
 |exact qI1 yLw (by rfl)|exact qI14 (fun _ _ h=>h)|exact qI5|exact qI6|exact qI4|exact qI7|exact qI8
 |exact qI28 rfl rfl (by first|rfl|assumption) (by rfl) (by(try simp only[List.set_cons_zero,List.set_cons_succ,Nat.reduceAdd,Nat.reduceMul,Int.reduceToNat,Nat.zero_add,Nat.add_zero]);rfl)
 |exact qI2 rfl rfl gY yLw (by rfl)|exact qI3 rfl rfl gN (by rfl)
 |exact qI15 rfl yLw (by rfl)|exact qI18 rfl|exact qI13 gSp|exact qI19
 |exact qI20 yLw (by rfl)|exact qI23|exact qI24 rfl yLw (by rfl) (by rfl)|exact qI27
 |exact qI16 rfl rfl rfl gY yLw (by rfl)|exact qI17 rfl rfl rfl gN (by rfl)
 |exact qI21 rfl rfl gY yLw (by rfl)|exact qI22 rfl rfl gN (by rfl)
 |exact qI25 rfl rfl rfl gY yLw (by rfl) (by rfl)|exact qI26 rfl rfl rfl gN (by rfl) (by rfl)
 |exact qI10 rfl gT|exact qI11 rfl gF|exact qI9|exact qI12 Fol.o (by kernel_rfl)):Imp r p:=h
structure Ct (_n:Nat) (q p:Prop):Prop where h:q→p
theorem cT0 {p:Prop} :Ct 0 p p:=⟨id⟩
theorem cTp {n:Nat} {q r p:Prop} (h:Imp r p) (k:Ct n q r):Ct (n+1) q p:=⟨fun x=>h.h (k.h x)⟩
theorem go (n:Nat) {q p:Prop} (k:q) (h:Ct n q p:=by(repeat apply cTp sTp);exact cT0):p:=h.h k
theorem pn {q p:Prop} (k:q) (h:q→p:=by intro k;(repeat (first|with_reducible refine a0G ?_|with_reducible refine a0M ?_));exact k):p:=h k
theorem ns {q p:Prop} (k:q) (h:q→p:=by intro k;(try simp only[List.cons_append,List.nil_append]);exact k):p:=h k
end
end Go.Sl
namespace Go.Proofs.Q
section
open Go
end
end Go.Proofs.Q
namespace Go.Proofs.Q
open Go
instance:Sl.Ag Tryz.prog 306 8:=⟨by kernel_rfl⟩
instance:Sl.Ag Tryz.prog 343 64:=⟨by kernel_rfl⟩
instance:Sl.Tar Tryz.prog 306 8 47 1:=⟨by kernel_rfl⟩
instance:Sl.Tar Tryz.prog 343 64 47 1:=⟨by kernel_rfl⟩
instance:Sl.Fl Tryz.prog 308 0 0:=⟨by kernel_rfl⟩
instance:Sl.Fol Tryz.prog:=⟨by kernel_rfl⟩
instance:Sl.Hb Tryz.prog 294:=⟨by kernel_rfl⟩
instance:Sl.Hb Tryz.prog 295:=⟨by kernel_rfl⟩
instance:Sl.Sc Tryz.prog 47:=⟨by kernel_rfl⟩
instance:Sl.Sz Tryz.prog 306 8:=⟨by kernel_rfl⟩
instance:Sl.Sz Tryz.prog 343 64:=⟨by kernel_rfl⟩
instance:Sl.Sz Tryz.prog 47 1:=⟨by kernel_rfl⟩
instance:Sl.Zr Tryz.prog 306 (.agg #[.int .u32 (0),.int .u32 (0),.int .u32 (0),.int .u32 (0),.int .u32 (0),.int .u32 (0),.int .u32 (0),.int .u32 (0)]):=⟨by kernel_rfl⟩
instance:Sl.Zr Tryz.prog 343 (.agg #[.int .u32 (0),.int .u32 (0),.int .u32 (0),.int .u32 (0),.int .u32 (0),.int .u32 (0),.int .u32 (0),.int .u32 (0),.int .u32 (0),.int .u32 (0),.int .u32 (0),.int .u32 (0),.int .u32 (0),.int .u32 (0),.int .u32 (0),.int .u32 (0),.int .u32 (0),.int .u32 (0),.int .u32 (0),.int .u32 (0),.int .u32 (0),.int .u32 (0),.int .u32 (0),.int .u32 (0),.int .u32 (0),.int .u32 (0),.int .u32 (0),.int .u32 (0),.int .u32 (0),.int .u32 (0),.int .u32 (0),.int .u32 (0),.int .u32 (0),.int .u32 (0),.int .u32 (0),.int .u32 (0),.int .u32 (0),.int .u32 (0),.int .u32 (0),.int .u32 (0),.int .u32 (0),.int .u32 (0),.int .u32 (0),.int .u32 (0),.int .u32 (0),.int .u32 (0),.int .u32 (0),.int .u32 (0),.int .u32 (0),.int .u32 (0),.int .u32 (0),.int .u32 (0),.int .u32 (0),.int .u32 (0),.int .u32 (0),.int .u32 (0),.int .u32 (0),.int .u32 (0),.int .u32 (0),.int .u32 (0),.int .u32 (0),.int .u32 (0),.int .u32 (0),.int .u32 (0)]):=⟨by kernel_rfl⟩
instance:Sl.Tin Tryz.prog 166 .u64:=⟨by kernel_rfl⟩
instance:Sl.Tin Tryz.prog 47 .u32:=⟨by kernel_rfl⟩
instance:Sl.Sc Tryz.prog 5:=⟨by kernel_rfl⟩
instance:Sl.Tsl Tryz.prog 113 5 1:=⟨by kernel_rfl⟩
instance:Sl.Tsn Tryz.prog 3:=⟨by kernel_rfl⟩
instance:Sl.Tsn Tryz.prog 5:=⟨by kernel_rfl⟩
end Go.Proofs.Q
namespace Go.Sl
section
def v0E (P:Program) (t n:Nat) (k:IntKind):Bool:= !P.eqGuardType P.depth t&&(match P.underlying t with
 |some (.array m e)=>m == n&&(P.cellsOf e == 1&&((P.info? e).isSome&&(i0B P e&&(match P.underlying e with|some (.int j)=>j == k|_=>false))))
 |_=>false)
def v0Z (P:Program) (t n m:Nat) (k:IntKind):Bool:= !P.eqGuardType P.depth t&&(match P.underlying t with
 |some (.array j e)=>j == n&&(P.cellsOf e == m&&((P.info? e).isSome&&(o0D P e m&&v0E P e m k)))
 |_=>false)
theorem b1O {α:Type} [DecidableEq α] {P:Program} {w:World} {d e c:Nat} {elem:α→Value} {xs ys:Array Value} {X Y:List α} (hl:X.length=Y.length)
 (hx: ∀i (h:i<X.length),(part e xs (i*c)).run P w= .ok (elem X[i]) w) (hy: ∀i (h:i<Y.length),(part e ys (i*c)).run P w= .ok (elem Y[i]) w)
 (heq: ∀a∈X,∀b∈Y,(Op.equalIn d e (elem a) (elem b)).run P w= .ok (decide (a=b)) w):
 ∀(m j:Nat),j+m=X.length→(Op.eqItems d e c xs ys (List.range' j m)).run P w= .ok (decide (X.drop j=Y.drop j)) w
 |0,j,hj=>by
  rw[List.drop_eq_nil_of_le (by omega),List.drop_eq_nil_of_le (by omega)]
  simp[Op.eqItems]
 |m+1,j,hj=>by
  have h1:j<X.length:=by omega
  have h2:j<Y.length:=by omega
  have ih:=b1O hl hx hy heq m (j+1) (by omega)
  rw[List.range'_succ]
  simp only[Op.eqItems,Sem.run_bind,hx j h1,hy j h2,Result.andThen_ok,heq _ (List.getElem_mem h1) _ (List.getElem_mem h2)]
  rw[List.drop_eq_getElem_cons h1,List.drop_eq_getElem_cons h2]
  by_cases e:X[j]=Y[j]
  ·simp only[e,decide_true,Bool.not_true,Bool.false_eq_true,if_false,ih,List.cons.injEq,true_and]
  ·have hne: ¬(X[j]::X.drop (j+1)=Y[j]::Y.drop (j+1)):=fun h=>e (List.cons.inj h).1
   rw[decide_eq_false hne]
   simp only[e,decide_false,Bool.not_false,if_true,Sem.run_pure]
theorem m1B {P:Program} {w:World} {t n:Nat} {k:IntKind} (ht:v0E P t n k=true) (d:Nat) {X Y:List Int} (hx:X.length=n) (hy:Y.length=n):
 (Op.equalIn (d+2) t (.agg (X.map (Value.int k)).toArray) (.agg (Y.map (Value.int k)).toArray)).run P w= .ok (decide (X=Y)) w:=by
 unfold v0E at ht
 simp only[Bool.and_eq_true]at ht
 obtain⟨_,ht⟩:=ht
 split at ht
 case h_2=>cases ht
 rename_i m e hu
 simp only[Bool.and_eq_true,beq_iff_eq]at ht
 obtain⟨rfl,hc,hi,hs,hk⟩:=ht
 obtain⟨i,hi⟩:=Option.isSome_iff_exists.1 hi
 split at hk
 case h_2=>cases hk
 rename_i j hj
 simp only[beq_iff_eq]at hk
 rw[run_equalIn_array w (d+1) _ _ hu hi,hc,List.range_eq_range',←hx]
 have hp: ∀(Z:List Int) i (h:i<Z.length),(part e (Z.map (Value.int k)).toArray (i*1)).run P w= .ok (Value.int k Z[i]) w:=fun Z i h=>
  i2I hs (by rw[Nat.mul_one,List.getElem?_map,List.getElem?_eq_getElem h];rfl) w
 exact b1O (X:=X) (Y:=Y) (by omega) (hp X) (hp Y) (fun a _ b _=>run_equalIn_int w d e k j a b hj) X.length 0 (by omega)
theorem z1Q {P:Program} {w:World} {t n m:Nat} {k:IntKind} (ht:v0Z P t n m k=true) (d:Nat) {X Y:List (List Int)} (hx:X.length=n) (hy:Y.length=n) (hx': ∀x∈X,x.length=m) (hy': ∀x∈Y,x.length=m):
 (Op.equalIn (d+3) t (.agg (X.flatMap (·.map (Value.int k))).toArray) (.agg (Y.flatMap (·.map (Value.int k))).toArray)).run P w= .ok (decide (X=Y)) w:=by
 unfold v0Z at ht
 simp only[Bool.and_eq_true]at ht
 obtain⟨_,ht⟩:=ht
 split at ht
 case h_2=>cases ht
 rename_i j e hu
 simp only[Bool.and_eq_true,beq_iff_eq]at ht
 obtain⟨rfl,hc,hi,hs,hk⟩:=ht
 obtain⟨i,hi⟩:=Option.isSome_iff_exists.1 hi
 rw[run_equalIn_array w (d+2) _ _ hu hi,hc,List.range_eq_range',←hx]
 have hp: ∀(Z:List (List Int)),(∀x∈Z,x.length=m)→ ∀i (h:i<Z.length),(part e (Z.flatMap (·.map (Value.int k))).toArray (i*m)).run P w= .ok (.agg (Z[i].map (Value.int k)).toArray) w:=by
  intro Z hZ i h
  have hex:(Z.flatMap (·.map (Value.int k))).toArray.extract (i*m) (i*m+m)=(Z[i].map (Value.int k)).toArray:=by
   apply Array.ext'
   simp only[Array.toList_extract,List.extract_eq_take_drop]
   clear hx hy hx' hy'
   induction Z generalizing i with
   |nil=>simp at h
   |cons z Z ih=>
    have hz:=hZ z (List.mem_cons_self ..)
    cases i with
    |zero=>simp[←hz,List.take_left']
    |succ i=>
     have:=ih (fun x hx=>hZ x (List.mem_cons_of_mem _ hx)) i (by simpa using h)
     simp only[List.flatMap_cons,List.getElem_cons_succ]
     rw[show(i+1)*m=m+i*m by rw[Nat.succ_mul,Nat.add_comm],show m+i*m+m- (m+i*m)=i*m+m-i*m by omega,←List.drop_drop,List.drop_left' (by simp[hz])]
     exact this
  have hsz:i*m+m≤(Z.flatMap (·.map (Value.int k))).toArray.size:=by
   have:(Z.flatMap (·.map (Value.int k))).length=Z.length*m:=by
    clear hex h
    induction Z with
    |nil=>simp
    |cons z Z ih=>simp[List.flatMap_cons,hZ z (List.mem_cons_self ..),ih (fun x hx=>hZ x (List.mem_cons_of_mem _ hx)),Nat.succ_mul,Nat.add_comm]
   rw[List.size_toArray,this,←Nat.succ_mul]
   exact Nat.mul_le_mul_right _ h
  simp only[part,Sem.run_bind,h0Z hs,Result.andThen_ok,if_true,i0L hs]
  simp[hex,hsz]
 exact b1O (X:=X) (Y:=Y) (by omega) (hp X hx') (hp Y hy') (fun a ha b hb=>m1B hk d (hx' a ha) (hy' b hb)) X.length 0 (by omega)
section
variable {c:Cx} {env:List (Nat×Value)} {L:List a0E} {d:Option Tmp} {ty:TypeId} {pos:String} {af:Array Edge} {g:Option (Nat×Bool)}
theorem d2V {x y:Operand} {t yt:TypeId} {n:Nat} {k:IntKind} {X Y:List Int} (ht:v0E c.P t n k=true) (hx:evo env x=some (.agg (X.map (Value.int k)).toArray)) (hy:evo env y=some (.agg (Y.map (Value.int k)).toArray)) (h1:X.length=n) (h2:Y.length=n):
 a0L c ⟨d,.binOp .eql t x y yt,ty,pos,af,g⟩ env L (.bool (decide (X=Y))):=by
 intro a w h
 have hg:c.P.eqGuardType c.P.depth t=false:=by
  unfold v0E at ht;simp only[Bool.and_eq_true,Bool.not_eq_true']at ht;exact ht.1
 have e2:(binOp .eql t (.agg (X.map (Value.int k)).toArray) (.agg (Y.map (Value.int k)).toArray)).run c.P w= .ok (.bool (decide (X=Y))) w:=by
  rw[run_eql_struct]
  rw[show(10000:Nat)=9998+2 from rfl,m1B ht 9998 h1 h2];rfl
 simp only[execOp,h.eval hx,h.eval hy,Sem.run_bind,run_eqGuard_agg w .eql t x y _ _ hg,Result.andThen_ok,e2,Sem.run_pure]
theorem z1R {x y:Operand} {t yt:TypeId} {n m:Nat} {k:IntKind} {X Y:List (List Int)} (ht:v0Z c.P t n m k=true) (hx:evo env x=some (.agg (X.flatMap (·.map (Value.int k))).toArray)) (hy:evo env y=some (.agg (Y.flatMap (·.map (Value.int k))).toArray))
 (h1:X.length=n) (h2:Y.length=n) (h3: ∀x∈X,x.length=m) (h4: ∀x∈Y,x.length=m):
 a0L c ⟨d,.binOp .eql t x y yt,ty,pos,af,g⟩ env L (.bool (decide (X=Y))):=by
 intro a w h
 have hg:c.P.eqGuardType c.P.depth t=false:=by
  unfold v0Z at ht;simp only[Bool.and_eq_true,Bool.not_eq_true']at ht;exact ht.1
 have e2:(binOp .eql t (.agg (X.flatMap (·.map (Value.int k))).toArray) (.agg (Y.flatMap (·.map (Value.int k))).toArray)).run c.P w= .ok (.bool (decide (X=Y))) w:=by
  rw[run_eql_struct]
  rw[show(10000:Nat)=9997+3 from rfl,z1Q ht 9997 h1 h2 h3 h4];rfl
 simp only[execOp,h.eval hx,h.eval hy,Sem.run_bind,run_eqGuard_agg w .eql t x y _ _ hg,Result.andThen_ok,e2,Sem.run_pure]
end
end
end Go.Sl
namespace Go.Proofs.Q
open Go
instance:Sl.Ag Tryz.prog 180 8:=⟨by kernel_rfl⟩
instance:Sl.Tar Tryz.prog 180 8 3 1:=⟨by kernel_rfl⟩
theorem F.ea180:Sl.v0E Tryz.prog 180 8 .i64=true:=by kernel_rfl
instance:Sl.Fl Tryz.prog 182 1 1:=⟨by kernel_rfl⟩
instance:Sl.Hb Tryz.prog 194:=⟨by kernel_rfl⟩
instance:Sl.Zr Tryz.prog 180 (.agg #[.int .i64 (0),.int .i64 (0),.int .i64 (0),.int .i64 (0),.int .i64 (0),.int .i64 (0),.int .i64 (0),.int .i64 (0)]):=⟨by kernel_rfl⟩
instance:Sl.Ag Tryz.prog 182 41:=⟨by kernel_rfl⟩
instance:Sl.Tar Tryz.prog 44 32 5 1:=⟨by kernel_rfl⟩
instance:Sl.Fl Tryz.prog 182 2 9:=⟨by kernel_rfl⟩
instance:Sl.Hb Tryz.prog 128:=⟨by kernel_rfl⟩
instance:Sl.Hb Tryz.prog 129:=⟨by kernel_rfl⟩
instance:Sl.Hb Tryz.prog 130:=⟨by kernel_rfl⟩
instance:Sl.Hb Tryz.prog 160:=⟨by kernel_rfl⟩
instance:Sl.Hb Tryz.prog 185:=⟨by kernel_rfl⟩
instance:Sl.Hb Tryz.prog 186:=⟨by kernel_rfl⟩
instance:Sl.Hb Tryz.prog 67:=⟨by kernel_rfl⟩
instance:Sl.Tin Tryz.prog 3 .i64:=⟨by kernel_rfl⟩
instance:Sl.Pl Tryz.prog 182 ([(0,1),(1,8),(9,32)],.agg #[.int .i64 (0),.int .i64 (0),.int .i64 (0),.int .i64 (0),.int .i64 (0),.int .i64 (0),.int .i64 (0),.int .i64 (0),.int .i64 (0),.int .u8 (0),.int .u8 (0),.int .u8 (0),.int .u8 (0),.int .u8 (0),.int .u8 (0),.int .u8 (0),.int .u8 (0),.int .u8 (0),.int .u8 (0),.int .u8 (0),.int .u8 (0),.int .u8 (0),.int .u8 (0),.int .u8 (0),.int .u8 (0),.int .u8 (0),.int .u8 (0),.int .u8 (0),.int .u8 (0),.int .u8 (0),.int .u8 (0),.int .u8 (0),.int .u8 (0),.int .u8 (0),.int .u8 (0),.int .u8 (0),.int .u8 (0),.int .u8 (0),.int .u8 (0),.int .u8 (0),.int .u8 (0)]):=⟨by kernel_rfl⟩
instance:Sl.Tsl Tryz.prog 261 9 1:=⟨by kernel_rfl⟩
instance:Sl.Sz Tryz.prog 182 41:=⟨by kernel_rfl⟩
instance:Sl.Sz Tryz.prog 3 1:=⟨by kernel_rfl⟩
instance:Sl.Tsn Tryz.prog 147:=⟨by kernel_rfl⟩
instance:Sl.Zr Tryz.prog 182 (.agg #[.int .i64 (0),.int .i64 (0),.int .i64 (0),.int .i64 (0),.int .i64 (0),.int .i64 (0),.int .i64 (0),.int .i64 (0),.int .i64 (0),.int .u8 (0),.int .u8 (0),.int .u8 (0),.int .u8 (0),.int .u8 (0),.int .u8 (0),.int .u8 (0),.int .u8 (0),.int .u8 (0),.int .u8 (0),.int .u8 (0),.int .u8 (0),.int .u8 (0),.int .u8 (0),.int .u8 (0),.int .u8 (0),.int .u8 (0),.int .u8 (0),.int .u8 (0),.int .u8 (0),.int .u8 (0),.int .u8 (0),.int .u8 (0),.int .u8 (0),.int .u8 (0),.int .u8 (0),.int .u8 (0),.int .u8 (0),.int .u8 (0),.int .u8 (0),.int .u8 (0),.int .u8 (0)]):=⟨by kernel_rfl⟩
instance:Sl.Zr Tryz.prog 9 (.string ByteArray.empty):=⟨by kernel_rfl⟩
instance:Sl.Ag Tryz.prog 44 32:=⟨by kernel_rfl⟩
instance:Sl.Fl Tryz.prog 182 0 0:=⟨by kernel_rfl⟩
instance:Sl.Hb Tryz.prog 14:=⟨by kernel_rfl⟩
instance:Sl.Hb Tryz.prog 252:=⟨by kernel_rfl⟩
instance:Sl.Hb Tryz.prog 81:=⟨by kernel_rfl⟩
instance:Sl.Hb Tryz.prog 82:=⟨by kernel_rfl⟩
instance:Sl.Hb Tryz.prog 83:=⟨by kernel_rfl⟩
instance:Sl.Tin Tryz.prog 147 .u64:=⟨by kernel_rfl⟩
instance:Sl.Sc Tryz.prog 3:=⟨by kernel_rfl⟩
instance:Sl.Tsn Tryz.prog 47:=⟨by kernel_rfl⟩
instance:Sl.Zr Tryz.prog 144 (.agg #[.slice none 0 0]):=⟨by kernel_rfl⟩
instance:Sl.Ag Tryz.prog 230 40:=⟨by kernel_rfl⟩
instance:Sl.Tar Tryz.prog 227 4 3 1:=⟨by kernel_rfl⟩
instance:Sl.Tar Tryz.prog 228 4 47 1:=⟨by kernel_rfl⟩
instance:Sl.Fl Tryz.prog 230 0 0:=⟨by kernel_rfl⟩
instance:Sl.Fl Tryz.prog 230 1 4:=⟨by kernel_rfl⟩
instance:Sl.Fl Tryz.prog 230 2 8:=⟨by kernel_rfl⟩
instance:Sl.Sz Tryz.prog 230 40:=⟨by kernel_rfl⟩
instance:Sl.Zr Tryz.prog 230 (.agg #[.int .i64 (0),.int .i64 (0),.int .i64 (0),.int .i64 (0),.int .u32 (0),.int .u32 (0),.int .u32 (0),.int .u32 (0),.int .u8 (0),.int .u8 (0),.int .u8 (0),.int .u8 (0),.int .u8 (0),.int .u8 (0),.int .u8 (0),.int .u8 (0),.int .u8 (0),.int .u8 (0),.int .u8 (0),.int .u8 (0),.int .u8 (0),.int .u8 (0),.int .u8 (0),.int .u8 (0),.int .u8 (0),.int .u8 (0),.int .u8 (0),.int .u8 (0),.int .u8 (0),.int .u8 (0),.int .u8 (0),.int .u8 (0),.int .u8 (0),.int .u8 (0),.int .u8 (0),.int .u8 (0),.int .u8 (0),.int .u8 (0),.int .u8 (0),.int .u8 (0)]):=⟨by kernel_rfl⟩
end Go.Proofs.Q
namespace Go.Proofs.Q
section
open Go
end
end Go.Proofs.Q
namespace Go.Proofs.Q
open Go
instance:Sl.Ag Tryz.prog 227 4:=⟨by kernel_rfl⟩
instance:Sl.Ag Tryz.prog 228 4:=⟨by kernel_rfl⟩
instance:Sl.Tby Tryz.prog 5:=⟨by kernel_rfl⟩
instance:Sl.Fl Tryz.prog 144 0 0:=⟨by kernel_rfl⟩
instance:Sl.Sc Tryz.prog 113:=⟨by kernel_rfl⟩
instance:Sl.Tst Tryz.prog 9:=⟨by kernel_rfl⟩
end Go.Proofs.Q
namespace Go.Proofs.Q
section
open Go
end
end Go.Proofs.Q
namespace Go.Proofs.Q
open Go
instance:Sl.Fl Tryz.prog 250 0 0:=⟨by kernel_rfl⟩
instance:Sl.Hb Tryz.prog 224:=⟨by kernel_rfl⟩
instance:Sl.Sc Tryz.prog 9:=⟨by kernel_rfl⟩
instance:Sl.Sz Tryz.prog 9 1:=⟨by kernel_rfl⟩
instance:Sl.Fl Tryz.prog 92 0 0:=⟨by kernel_rfl⟩
instance:Sl.Fl Tryz.prog 92 1 1:=⟨by kernel_rfl⟩
instance:Sl.Fl Tryz.prog 92 2 2:=⟨by kernel_rfl⟩
instance:Sl.Fl Tryz.prog 92 3 3:=⟨by kernel_rfl⟩
instance:Sl.Fl Tryz.prog 92 4 4:=⟨by kernel_rfl⟩
instance:Sl.Fl Tryz.prog 92 6 6:=⟨by kernel_rfl⟩
instance:Sl.Hb Tryz.prog 165:=⟨by kernel_rfl⟩
instance:Sl.Hb Tryz.prog 248:=⟨by kernel_rfl⟩
instance:Sl.Hb Tryz.prog 249:=⟨by kernel_rfl⟩
instance:Sl.Hb Tryz.prog 250:=⟨by kernel_rfl⟩
instance:Sl.Hb Tryz.prog 251:=⟨by kernel_rfl⟩
instance:Sl.Hb Tryz.prog 57:=⟨by kernel_rfl⟩
instance:Sl.Sc Tryz.prog 86:=⟨by kernel_rfl⟩
instance:Sl.Sc Tryz.prog 87:=⟨by kernel_rfl⟩
instance:Sl.Sc Tryz.prog 88:=⟨by kernel_rfl⟩
instance:Sl.Sc Tryz.prog 89:=⟨by kernel_rfl⟩
instance:Sl.Fl Tryz.prog 92 5 5:=⟨by kernel_rfl⟩
instance:Sl.Hb Tryz.prog 257:=⟨by kernel_rfl⟩
instance:Sl.Hb Tryz.prog 258:=⟨by kernel_rfl⟩
instance:Sl.Hb Tryz.prog 260:=⟨by kernel_rfl⟩
instance:Sl.e0T Tryz.prog 89 3 3:=⟨by kernel_rfl⟩
instance:Sl.Sc Tryz.prog 55:=⟨by kernel_rfl⟩
instance:Sl.Sc Tryz.prog 90:=⟨by kernel_rfl⟩
instance:Sl.Tsl Tryz.prog 90 3 1:=⟨by kernel_rfl⟩
instance:Sl.Ttb Tryz.prog 3 8:=⟨by kernel_rfl⟩
instance:Sl.Zr Tryz.prog 3 (.int .i64 (0)):=⟨by kernel_rfl⟩
end Go.Proofs.Q
namespace Go.Proofs.Q
section
open Go
end
section
open Go
end
end Go.Proofs.Q
namespace Go.Proofs.Q
open Go
instance:Sl.Hb Tryz.prog 105:=⟨by kernel_rfl⟩
instance:Sl.Hb Tryz.prog 106:=⟨by kernel_rfl⟩
instance:Sl.Hb Tryz.prog 107:=⟨by kernel_rfl⟩
instance:Sl.Hb Tryz.prog 149:=⟨by kernel_rfl⟩
instance:Sl.Hb Tryz.prog 150:=⟨by kernel_rfl⟩
instance:Sl.Sz Tryz.prog 90 1:=⟨by kernel_rfl⟩
instance:Sl.Hb Tryz.prog 162:=⟨by kernel_rfl⟩
instance:Sl.Fl Tryz.prog 154 1 1:=⟨by kernel_rfl⟩
instance:Sl.Hb Tryz.prog 104:=⟨by kernel_rfl⟩
instance:Sl.Hb Tryz.prog 187:=⟨by kernel_rfl⟩
instance:Sl.Hb Tryz.prog 63:=⟨by kernel_rfl⟩
instance:Sl.Sz Tryz.prog 89 1:=⟨by kernel_rfl⟩
instance:Sl.Fl Tryz.prog 173 0 0:=⟨by kernel_rfl⟩
instance:Sl.Fl Tryz.prog 175 1 1:=⟨by kernel_rfl⟩
instance:Sl.Hb Tryz.prog 225:=⟨by kernel_rfl⟩
instance:Sl.Hb Tryz.prog 226:=⟨by kernel_rfl⟩
instance:Sl.Sc Tryz.prog 171:=⟨by kernel_rfl⟩
instance:Sl.Tsl Tryz.prog 171 175 2:=⟨by kernel_rfl⟩
instance:Sl.Fl Tryz.prog 173 1 1:=⟨by kernel_rfl⟩
instance:Sl.Fl Tryz.prog 173 2 2:=⟨by kernel_rfl⟩
instance:Sl.Fl Tryz.prog 173 3 3:=⟨by kernel_rfl⟩
instance:Sl.Sc Tryz.prog 4:=⟨by kernel_rfl⟩
instance:Sl.Sz Tryz.prog 4 1:=⟨by kernel_rfl⟩
instance:Sl.Fl Tryz.prog 154 0 0:=⟨by kernel_rfl⟩
instance:Sl.Hb Tryz.prog 147:=⟨by kernel_rfl⟩
instance:Sl.Hb Tryz.prog 148:=⟨by kernel_rfl⟩
instance:Sl.Hb Tryz.prog 34:=⟨by kernel_rfl⟩
instance:Sl.Sc Tryz.prog 152:=⟨by kernel_rfl⟩
instance:Sl.Tsl Tryz.prog 152 1 1:=⟨by kernel_rfl⟩
instance:Sl.Sz Tryz.prog 152 1:=⟨by kernel_rfl⟩
instance:Sl.Sc Tryz.prog 1:=⟨by kernel_rfl⟩
instance:Sl.Hb Tryz.prog 166:=⟨by kernel_rfl⟩
instance:Sl.Hb Tryz.prog 169:=⟨by kernel_rfl⟩
instance:Sl.Hb Tryz.prog 195:=⟨by kernel_rfl⟩
instance:Sl.Hb Tryz.prog 221:=⟨by kernel_rfl⟩
instance:Sl.Hb Tryz.prog 253:=⟨by kernel_rfl⟩
instance:Sl.Hb Tryz.prog 259:=⟨by kernel_rfl⟩
instance:Sl.Hb Tryz.prog 279:=⟨by kernel_rfl⟩
instance:Sl.Hb Tryz.prog 282:=⟨by kernel_rfl⟩
instance:Sl.Hb Tryz.prog 284:=⟨by kernel_rfl⟩
instance:Sl.Hb Tryz.prog 286:=⟨by kernel_rfl⟩
instance:Sl.Hb Tryz.prog 287:=⟨by kernel_rfl⟩
instance:Sl.Ag Tryz.prog 50 6:=⟨by kernel_rfl⟩
instance:Sl.Hb Tryz.prog 167:=⟨by kernel_rfl⟩
instance:Sl.Hb Tryz.prog 254:=⟨by kernel_rfl⟩
instance:Sl.Hb Tryz.prog 283:=⟨by kernel_rfl⟩
instance:Sl.e0T Tryz.prog 208 44 3:=⟨by kernel_rfl⟩
instance:Sl.e0T Tryz.prog 57 47 50:=⟨by kernel_rfl⟩
instance:Sl.Sc Tryz.prog 208:=⟨by kernel_rfl⟩
instance:Sl.Sc Tryz.prog 236:=⟨by kernel_rfl⟩
instance:Sl.Sc Tryz.prog 256:=⟨by kernel_rfl⟩
instance:Sl.Sc Tryz.prog 319:=⟨by kernel_rfl⟩
instance:Sl.Sc Tryz.prog 57:=⟨by kernel_rfl⟩
instance:Sl.Zr Tryz.prog 90 (.slice none 0 0):=⟨by kernel_rfl⟩
instance:Sl.Sz Tryz.prog 50 6:=⟨by kernel_rfl⟩
instance:Sl.Zr Tryz.prog 4 (.bool false):=⟨by kernel_rfl⟩
instance:Sl.Zr Tryz.prog 50 (.agg #[.int .u32 (0),.int .u32 (0),.bool false,.int .i64 (0),.int .i64 (0),.int .u32 (0)]):=⟨by kernel_rfl⟩
theorem F.ka44:Sl.v0Y Tryz.prog 44 32 5=true:=by kernel_rfl
instance:Sl.Zr Tryz.prog 47 (.int .u32 (0)):=⟨by kernel_rfl⟩
instance:Sl.Ttb Tryz.prog 1 8:=⟨by kernel_rfl⟩
instance:Sl.Zr Tryz.prog 1 (.nilFunc):=⟨by kernel_rfl⟩
end Go.Proofs.Q
namespace Go.Proofs.Q
section
open Go
end
end Go.Proofs.Q
namespace Go.Proofs.Q
open Go
instance:Sl.Fl Tryz.prog 70 0 0:=⟨by kernel_rfl⟩
instance:Sl.Fl Tryz.prog 70 1 1:=⟨by kernel_rfl⟩
instance:Sl.Fl Tryz.prog 70 2 2:=⟨by kernel_rfl⟩
instance:Sl.Fl Tryz.prog 70 3 3:=⟨by kernel_rfl⟩
instance:Sl.Fl Tryz.prog 70 4 4:=⟨by kernel_rfl⟩
instance:Sl.Tin Tryz.prog 5 .u8:=⟨by kernel_rfl⟩
instance:Sl.Sz Tryz.prog 113 1:=⟨by kernel_rfl⟩
instance:Sl.Ttb Tryz.prog 5 1:=⟨by kernel_rfl⟩
instance:Sl.Zr Tryz.prog 5 (.int .u8 (0)):=⟨by kernel_rfl⟩
end Go.Proofs.Q
namespace Go.Proofs.Q
section
open Go
end
end Go.Proofs.Q
namespace Go.Proofs.Q
open Go
instance:Sl.Ag Tryz.prog 70 5:=⟨by kernel_rfl⟩
instance:Sl.Hb Tryz.prog 79:=⟨by kernel_rfl⟩
instance:Sl.Hb Tryz.prog 80:=⟨by kernel_rfl⟩
instance:Sl.Sz Tryz.prog 70 5:=⟨by kernel_rfl⟩
instance:Sl.Zr Tryz.prog 70 (.agg #[.int .i64 (0),.int .u32 (0),.int .i64 (0),.int .i64 (0),.string ByteArray.empty]):=⟨by kernel_rfl⟩
instance:Sl.Hb Tryz.prog 131:=⟨by kernel_rfl⟩
instance:Sl.Pl Tryz.prog 70 ([(0,1),(1,1),(2,1),(3,1),(4,1)],.agg #[.int .i64 (0),.int .u32 (0),.int .i64 (0),.int .i64 (0),.string ByteArray.empty]):=⟨by kernel_rfl⟩
instance:Sl.Pl Tryz.prog 250 ([(0,1)],.agg #[.string ByteArray.empty]):=⟨by kernel_rfl⟩
instance:Sl.Fl Tryz.prog 199 0 0:=⟨by kernel_rfl⟩
instance:Sl.Hb Tryz.prog 132:=⟨by kernel_rfl⟩
instance:Sl.Hb Tryz.prog 88:=⟨by kernel_rfl⟩
theorem F.if20:Sl.k1C Tryz.prog 20=true:=by kernel_rfl
theorem F.ni199:(match Tryz.prog.underlying 199 with|some (.interface _)|none=>false|_=>true)=true:=by kernel_rfl
instance:Sl.Pl Tryz.prog 199 ([(0,1)],.agg #[.int .i64 (0)]):=⟨by kernel_rfl⟩
instance:Sl.Sc Tryz.prog 29:=⟨by kernel_rfl⟩
instance:Sl.Sz Tryz.prog 199 1:=⟨by kernel_rfl⟩
instance:Sl.Sz Tryz.prog 29 1:=⟨by kernel_rfl⟩
instance:Sl.Zr Tryz.prog 199 (.agg #[.int .i64 (0)]):=⟨by kernel_rfl⟩
instance:Sl.Zr Tryz.prog 29 (.int .i64 (0)):=⟨by kernel_rfl⟩
end Go.Proofs.Q
namespace Go.Proofs.Q
open Go.Sl
section
def t0N (e:Int):List PanicEntry:= [{v:= .iface 199 (.agg #[.int .i64 e]),recovered:=false}]
def s2Z (e:Int):Ending→List a0E→Prop:=fun en L=>en= .panicked (t0N e)∧L= []
attribute [local irreducible] Sl.a0L Sl.OW Sl.CW Sl.OS Sl.OM Sl.OMf Sl.KM
theorem d0C (e:Int):a0S Tryz.prog 67 #[.int .i64 e] [] (s2Z e):=by
 refine a0C Tryz.func67 rfl Tryz.ntmps67 rfl (fun R w0=> ?_)
 simp only[a0N,List.cons_append,List.nil_append]
 refine go 3 ?_
 refine a0F (n2C F.ni199 rfl) ?_
 refine(i2E rfl ?_)
 refine pn ?_
 refine e0H (fun _ _ h=>h) (b0L.back gSp) ⟨rfl,rfl⟩
theorem j2A (b:Nat) (o:Obj):z0D Tryz.prog 132 #[.pointer (some ⟨b,0,none⟩)] .returning [pts b o] (fun e u' L'=>(∃v,e= .returned v)∧settle u'= .returning∧L'= [pts b o]):=by
 refine l1U (args:= [.pointer (some ⟨b,0,none⟩)]) Tryz.func132 rfl Tryz.ntmps132 rfl rfl rfl (fun R w0=> ?_)
 simp only[q0P,a0N,List.cons_append,List.nil_append]
 refine go 4 ?_
 refine a0F (o1X F.if20 rfl rfl) ?_
 refine go 3 ?_
 refine q0U (h1F (fun _ _ h=>h) rfl (b0L.back gSp) ⟨⟨_,rfl⟩,rfl,rfl⟩)
theorem u1H (b:Nat) (e e0:Int):z0D Tryz.prog 132 #[.pointer (some ⟨b,0,none⟩)] (.panicking (t0N e)) [pts b (.cells #[.int .i64 e0] 29 (0,0))]
 (fun e' u' L'=>(∃v,e'= .returned v)∧settle u'= .returning∧L'= [pts b (.cells #[.int .i64 e] 29 (0,0))]):=by
 refine l1U (args:= [.pointer (some ⟨b,0,none⟩)]) Tryz.func132 rfl Tryz.ntmps132 rfl rfl rfl (fun R w0=> ?_)
 simp only[q0P,t0N,a0N,List.cons_append,List.nil_append]
 refine go 4 ?_
 refine a0F (o1X F.if20 rfl rfl) ?_
 refine go 8 ?_
 refine a0F (i2F F.ni199 rfl) ?_
 refine go 3 ?_
 refine(a0U Zr.o (fun b3=> ?_))
 refine(a0K Sz.o rfl rfl (by first|rfl|simp) (by simp[Value.oneCell']) (by simp[Value.cells]) (by simp[i0N,Value.cells]<;>rfl) ?_)
 refine go 20 ?_
 refine v0V rfl (b0L.back gSp) ⟨⟨_,rfl⟩,rfl,rfl⟩
theorem b0L.mid {A F:a0E} {Pre:List a0E} :b0L (A::(Pre++ [F])) Pre [A,F]:=List.perm_middle.symm.trans (List.Perm.refl _)
theorem j2B {X Y:Type} (b:Nat) (g:FuncId) (cap:List Value) (Pre:List a0E) (p:X→Prop) (v:X→Value) (N:X→List a0E) (q:Y→Prop) (er:Y→Int) (N':Y→List a0E) (e0:Int)
 (hb:f0J Tryz.prog g=true) (hg:a0S Tryz.prog g cap.toArray Pre (o1T p v N q (fun y=>t0N (er y)) N')):
 a0S Tryz.prog 88 #[.func (.func g) #[] cap.toArray,.pointer (some ⟨b,0,none⟩)] (pts b (.cells #[.int .i64 e0] 29 (0,0))::Pre)
  (c0X (fun z:X ⊕ Y=>match z with| .inl x=>p x| .inr y=>q y) (fun _=> .tuple #[]) (fun z=>match z with| .inl x=>pts b (.cells #[.int .i64 e0] 29 (0,0))::N x| .inr y=>pts b (.cells #[.int .i64 (er y)] 29 (0,0))::N' y)):=by
 refine x0T (args:= [_,_]) Tryz.func88 rfl Tryz.ntmps88 rfl (fun R w0=> ?_)
 simp only[a0N,List.cons_append,List.nil_append]
 refine go 3 ?_
 refine f1K (f:=132) (first:= []) (cap:= []) rfl rfl ?_
 refine go 4 ?_
 refine d2H (first:= []) (cap:=cap) (vs:= []) rfl hb rfl hg b0L.mid ?_ ?_
 ·intro x hx
  refine go 1 ?_
  refine l1V (f:=132) (cap:= []) (args:= [.pointer (some ⟨b,0,none⟩)]) (u:= .returning) (.inl ⟨.inl rfl,rfl⟩) (fun _ _ h=>h) rfl Hb.o (j2A b (.cells #[.int .i64 e0] 29 (0,0))) (M:=N x++ [R]) (L':=pts b (.cells #[.int .i64 e0] 29 (0,0))::N x) (R:= []) ?_ ?_ ⟨.inl x,hx,rfl,rfl⟩
  ·exact List.perm_middle
  ·show List.Perm ([_]++(N x++ [R])) ((R::_::N x)++ [])
   rw[List.append_nil,←List.append_assoc]
   exact List.perm_append_comm
 ·intro y hy
  refine l1V (f:=132) (cap:= []) (args:= [.pointer (some ⟨b,0,none⟩)]) (u:= .panicking (t0N (er y))) (.inr ⟨_,rfl,rfl⟩) (fun _ _ h=>h) rfl Hb.o (u1H b (er y) e0) (M:=N' y++ [R]) (L':=pts b (.cells #[.int .i64 (er y)] 29 (0,0))::N' y) (R:= []) ?_ ?_ ⟨.inr y,hy,rfl,rfl⟩
  ·exact List.perm_middle
  ·show List.Perm ([_]++(N' y++ [R])) ((R::_::N' y)++ [])
   rw[List.append_nil,←List.append_assoc]
   exact List.perm_append_comm
theorem h1Y {X Y:Type} (g:FuncId) (cap:List Value) (Pre:List a0E) (p:X→Prop) (v:X→Value) (N:X→List a0E) (q:Y→Prop) (er:Y→Int) (N':Y→List a0E)
 (hb:f0J Tryz.prog g=true) (hg:a0S Tryz.prog g cap.toArray Pre (o1T p v N q (fun y=>t0N (er y)) N')):
 a0S Tryz.prog 34 #[.func (.func g) #[] cap.toArray] Pre
  (c0X (fun z:X ⊕ Y=>match z with| .inl x=>p x| .inr y=>q y) (fun z=>match z with| .inl _=> .int .i64 0| .inr y=> .int .i64 (er y)) (fun z=>match z with| .inl x=>N x| .inr y=>N' y)):=by
 refine a0C Tryz.func34 rfl Tryz.ntmps34 rfl (fun R w0=> ?_)
 simp only[a0N,List.cons_append,List.nil_append]
 refine go 7 ?_
 refine(a0U Zr.o (fun b3=> ?_))
 refine go 6 ?_
 refine a0W (first:= []) (cap:= []) rfl Hb.o rfl (j2B b3 g cap Pre p v N q er N' 0 hb hg) (M:= [R]) (List.Perm.refl _) ?_
 have hsp: ∀(A:a0E) (M:List a0E),b0L (A::(M++ [R])) (R::M) [A]:=fun A M=>by
  show List.Perm _ ((R::M)++ [A])
  have h1:List.Perm (A::(M++ [R])) ((M++ [R])++ [A]):=List.perm_append_comm (l₁:= [A])
  exact h1.trans ((List.perm_append_comm (l₁:=M) (l₂:= [R])).append_right [A])
 rintro(x|y) hz
 ·simp only[List.cons_append,List.nil_append]
  refine go 8 ?_
  exact d0Z (.inl x) hz (fun _ _ h=>h) rfl rfl (hsp _ _)
 ·simp only[List.cons_append,List.nil_append]
  refine go 8 ?_
  exact d0Z (.inr y) hz (fun _ _ h=>h) rfl rfl (hsp _ _)
end
end Go.Proofs.Q
namespace Go.Proofs.Q
open Go.Sl Go.Sb
section
abbrev pin (b:Nat) (s:ByteArray):a0E:=pts b (.cells #[.string s] 250 (0,0))
theorem n2U (l:List UInt8) (i:Nat) (h:i<l.length):be (l.take (i+1))=be (l.take i)*256+l[i].toNat:=by
 simp only[be]
 rw[List.take_succ,List.getElem?_eq_getElem h,List.foldl_append];rfl
theorem h1Z (l:List UInt8):be l<256^l.length:=by
 have: ∀(l:List UInt8) (n:Nat),l.foldl (fun n c=>n*256+c.toNat) n<(n+1)*256^l.length:=by
  intro l
  induction l with
  |nil=>intro n;simp
  |cons c l ih=>
   intro n
   have h1:=ih (n*256+c.toNat)
   have hc:=c.toNat_lt
   simp only[List.foldl_cons,List.length_cons,Nat.pow_succ]
   refine Nat.lt_of_lt_of_le h1 ?_
   rw[Nat.mul_comm (256^l.length) 256,←Nat.mul_assoc]
   exact Nat.mul_le_mul_right _ (by omega)
 simpa [be] using this l 0
theorem j2C (l:List UInt8) (i:Nat) (hi:i<8):be (l.take i)*256<18446744073709551616:=by
 have h1:=h1Z (l.take i)
 have h2:(l.take i).length≤7:=by simp;omega
 have h3:256^(l.take i).length≤256^7:=Nat.pow_le_pow_right (by decide) h2
 omega
theorem p0R (x:Int) (n:Nat) (h:x=n) (hn:n<18446744073709551616):IntKind.u64.wrap x=(n:Int):=by
 subst h
 simp only[IntKind.wrap,IntKind.bits,IntKind.signed,Bool.false_and,Bool.false_eq_true,if_false]
 exact Int.emod_eq_of_lt (Int.natCast_nonneg _) (by omega)
attribute [local irreducible] Sl.a0L Sl.OW Sl.CW Sl.OS Sl.OM Sl.OMf Sl.KM
theorem x0G (s:ByteArray):a0S Tryz.prog 128 #[.string s] [] (c0X (fun _:Nat=>True) (fun b=> .pointer (some ⟨b,0,none⟩)) (fun b=> [pin b s])):=by
 refine a0C Tryz.func128 rfl Tryz.ntmps128 rfl (fun R w0=> ?_)
 simp only[a0N,List.cons_append,List.nil_append]
 refine go 9 ?_
 refine(a0X rfl (fun b5=> ?_))
 refine go 3 ?_
 refine d0Z b5 trivial (fun _ _ h=>h) rfl rfl gSp
theorem w1N (b:Nat) (s:ByteArray) (n:Nat) (hn:n≤s.size) (hs:s.size≤1000000):a0S Tryz.prog 130 #[.pointer (some ⟨b,0,none⟩),.int .i64 n] [pin b s] (b0G (.string (s.extract 0 n)) [pin b (s.extract n s.size)]):=by
 refine a0C Tryz.func130 rfl Tryz.ntmps130 rfl (fun R w0=> ?_)
 simp only[a0N,List.cons_append,List.nil_append]
 refine go 37 ?_
 refine a0F (b1F Tst.o rfl rfl (by omega)) ?_
 refine go 11 ?_
 refine a0F (b1E Tst.o rfl rfl (by omega)) ?_
 refine go 11 ?_
 refine b0V (fun _ _ h=>h) rfl rfl gSp
theorem p1I (b:Nat) (s:ByteArray) (n:Nat) (hn:s.size<n) (hs:s.size≤1000000):a0S Tryz.prog 130 #[.pointer (some ⟨b,0,none⟩),.int .i64 n] [pin b s] (fun en L=>en= .panicked (t0N 2)∧L= [pin b s]):=by
 refine a0C Tryz.func130 rfl Tryz.ntmps130 rfl (fun R w0=> ?_)
 simp only[a0N,List.cons_append,List.nil_append]
 refine go 29 ?_
 refine c0M rfl Hb.o rfl (d0C 2) gSp ?_
 simp only[List.cons_append,List.nil_append]
 refine pn ?_
 refine e0H (fun _ _ h=>h) (b0L.back gSp) ⟨rfl,rfl⟩
theorem n2V (b:Nat) (s:ByteArray) (k:Nat) (hk:1≤k∧k≤8) (hn:s.size<k) (hs:s.size≤1000000):a0S Tryz.prog 129 #[.pointer (some ⟨b,0,none⟩),.int .i64 k] [pin b s] (fun en L=>en= .panicked (t0N 2)∧L= [pin b s]):=by
 have hmm:min (max (k:Int) 1) 8=k:=by omega
 refine a0C Tryz.func129 rfl Tryz.ntmps129 rfl (fun R w0=> ?_)
 simp only[a0N,List.cons_append,List.nil_append]
 refine go 17 ?_
 rw[hmm]
 refine c0M rfl Hb.o rfl (p1I b s k hn hs) gSp ?_
 simp only[List.cons_append,List.nil_append]
 refine pn ?_
 refine e0H (fun _ _ h=>h) (b0L.back gSp) ⟨rfl,rfl⟩
theorem r2E (b:Nat) (s:ByteArray) (k:Nat) (hk:1≤k∧k≤8) (hn:k≤s.size) (hs:s.size≤1000000):
 a0S Tryz.prog 129 #[.pointer (some ⟨b,0,none⟩),.int .i64 k] [pin b s] (b0G (.int .u64 (be (s.data.toList.take k):Nat)) [pin b (s.extract k s.size)]):=by
 have hmm:min (max (k:Int) 1) 8=k:=by omega
 have hsz:(s.extract 0 k).size=k:=by rw[ByteArray.size_extract];omega
 have hdl:(s.extract 0 k).data.toList=s.data.toList.take k:=by simp
 refine a0C Tryz.func129 rfl Tryz.ntmps129 rfl (fun R w0=> ?_)
 simp only[a0N,List.cons_append,List.nil_append]
 refine go 17 ?_
 rw[hmm]
 refine a0D rfl Hb.o rfl (w1N b s k hn hs) gSp ?_
 refine ns ?_
 refine o1V Tst.o Tsl.o Tby.o rfl (by rw[hsz];simp only[maxLen];omega) (fun b13 k13 hk13 hm13=> ?_)
 refine go 5 ?_
 refine b0S (X:= {i:Nat // i≤k}) (fun x=> [(5,.int .u64 (be (s.data.toList.take x.1):Nat)),(13,.slice (some ⟨b13,0,none⟩) (s.extract 0 k).size k13),(14,.int .i64 (s.extract 0 k).size),(15,.int .i64 x.1)]) (fun x=> [pts b13 (.cells (o0S (s.extract 0 k) k13).toArray 5 (k13,k13+1)),pin b (s.extract k s.size),R]) (fun x=>k-x.1) ⟨0,by omega⟩ gSu gSp ?_
 rintro⟨i,hi⟩ m0 hm0
 try simp only at hm0
 try dsimp only
 skip
 refine go 6 ?_
 refine b0C rfl (fun hb16=> ?_) (fun hb16=> ?_)
 ·have hik:i<k:=by have:=of_decide_eq_true hb16;omega
  have hil:i<s.data.toList.length:=by
   have:s.data.toList.length=s.size:=by simp
   omega
  have hck:(s.extract 0 k).data.toList[i]'(by simp;omega)=s.data.toList[i]:=by simp
  refine go 7 ?_
  refine a0F (b0T Sc.o rfl (f1J (s.extract 0 k) k13 i (by omega) _ (by simp))) ?_
  refine go 2 ?_
  rw[hck]
  refine go 3 ?_
  refine a0F (y1W rfl rfl (by first|decide| (simp only[IntKind.bits];omega))) ?_
  refine go 2 ?_
  have hcl:=(s.data.toList[i]).toNat_lt
  have hbb:=j2C s.data.toList i (by omega)
  rw[show IntKind.u64.wrap ((be (s.data.toList.take i):Nat)*2^Int.toNat 8)=((be (s.data.toList.take i)*256:Nat):Int)from p0R _ _ (by simp) hbb,show IntKind.u64.wrap ((s.data.toList[i]).toNat:Int)=((s.data.toList[i]).toNat:Int)from p0R _ _ rfl (by omega)]
  refine a0F (h2Z rfl rfl) ?_
  refine go 2 ?_
  rw[q2U _ _ hbb (by omega),←n2U _ _ hil]
  refine go 5 ?_
  refine b0Q (fun _ _ h=>h) (⟨i+1,hik⟩) (by first|omega| (simp only;omega)) gSu gSp
 ·have hik:i=k:=by have:=of_decide_eq_false hb16;omega
  subst hik
  refine go 8 ?_
  refine b0V (fun _ _ h=>h) rfl rfl gSp
end
section
abbrev bs (l:List UInt8):ByteArray:=⟨l.toArray⟩
theorem b0N (l:List UInt8):(bs l).size=l.length:=by show l.toArray.size=_;simp
theorem l0B (l:List UInt8):(bs l).data.toList=l:=by simp
theorem p1J {a b:ByteArray} (h:a.data.toList=b.data.toList):a=b:=Go.WideShapes.bytes_inj h
theorem v0F (l:List UInt8) (k:Nat):(bs l).extract k (bs l).size=bs (l.drop k):=by
 refine p1J ?_
 rw[l0B,b0N]
 simp only[ByteArray.data_extract,Array.toList_extract,List.extract_eq_take_drop]
 rw[List.take_of_length_le (by simp)]
theorem y0J (l:List UInt8) (k:Nat):(bs l).extract 0 k=bs (l.take k):=by
 refine p1J ?_
 rw[l0B]
 simp
abbrev p0S (b:Nat) (l:List UInt8):a0E:=pin b (bs l)
theorem y0K (b:Nat) (l:List UInt8) (k:Nat) (hk:1≤k∧k≤8) (hn:k≤l.length) (hs:l.length≤1000000):
 a0S Tryz.prog 129 #[.pointer (some ⟨b,0,none⟩),.int .i64 k] [p0S b l] (b0G (.int .u64 (be (l.take k):Nat)) [p0S b (l.drop k)]):=by
 have:=r2E b (bs l) k hk (by rw[b0N];exact hn) (by rw[b0N];exact hs)
 rw[v0F,l0B]at this
 exact this
theorem j2D (b:Nat) (l:List UInt8) (k:Nat) (hk:1≤k∧k≤8) (hn:l.length<k) (hs:l.length≤1000000):
 a0S Tryz.prog 129 #[.pointer (some ⟨b,0,none⟩),.int .i64 k] [p0S b l] (fun en L=>en= .panicked (t0N 2)∧L= [p0S b l]):=
 n2V b (bs l) k hk (by rw[b0N];exact hn) (by rw[b0N];exact hs)
theorem s0Y (b:Nat) (l:List UInt8) (n:Nat) (hn:n≤l.length) (hs:l.length≤1000000):a0S Tryz.prog 130 #[.pointer (some ⟨b,0,none⟩),.int .i64 n] [p0S b l] (b0G (.string (bs (l.take n))) [p0S b (l.drop n)]):=by
 have:=w1N b (bs l) n (by rw[b0N];exact hn) (by rw[b0N];exact hs)
 rw[v0F,y0J]at this
 exact this
attribute [local irreducible] Sl.a0L Sl.OW Sl.CW Sl.OS Sl.OM Sl.OMf Sl.KM
end
end Go.Proofs.Q

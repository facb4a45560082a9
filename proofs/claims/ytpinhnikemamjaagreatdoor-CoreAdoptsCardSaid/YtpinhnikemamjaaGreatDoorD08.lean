/- Part of the proof; no statement of its own. -/
import Derived.Test.YtpinhnikemamjaaGreatDoorD07
import Derived.Test.YtpinhnikemamjaaGreatDoorD06
import Derived.Test.YtpinhnikemamjaaGreatDoorD05
import Derived.KernelRfl
import Derived.Test.YtpinhnikemamjaaGreatDoorProg
import Derived.Test.YtpinhnikemamjaaGreatDoorD04
import Derived.ChangeKeysEq
set_option linter.all false
set_option maxRecDepth 4000
set_option maxHeartbeats 4000000
namespace Go.Sl
section
class Ag (P:Program) (t:Nat) (n:outParam Nat):Prop where o:o0N P t n=true
class Fl (P:Program) (s f:Nat) (k:outParam Nat):Prop where o:n1K P s f k=true
class Sc (P:Program) (t:Nat):Prop where o:f0Q P t=true
class Sz (P:Program) (t:Nat) (n:outParam Nat):Prop where o:x0O P t n=true
class Zr (P:Program) (t:Nat) (z:outParam Value):Prop where o:h0D P t=some z
class Pl (P:Program) (t:Nat) (z:outParam (List (Nat×Nat)×Value)):Prop where o:i1L P t=some z
class Hb (P:Program) (f:Nat):Prop where o:f0H P f=true
class Tsl (P:Program) (t:Nat) (e n:outParam Nat):Prop where o:c0X P t e n=true
class Tar (P:Program) (t:Nat) (l e n:outParam Nat):Prop where o:k0Y P t l e n=true
class Tin (P:Program) (t:Nat) (k:outParam IntKind):Prop where o:y0U P t k=true
class Tsn (P:Program) (t:Nat):Prop where o:(P.underlying t).isSome=true
class Tst (P:Program) (t:Nat):Prop where o:g0D P t=true
class Tby (P:Program) (t:Nat):Prop where o:b1I P t=true
class c0Y (P:Program) (t:Nat) (k e:outParam Nat):Prop where o:q0I P t k e=true
class Ttb (P:Program) (t:Nat) (n:outParam Nat):Prop where o:r0K P t n=true
class Fol (P:Program):Prop where o:P.follows .mixedOrders=true
theorem gT {b:Bool} (h:b=true:=by first|rfl|exact decide_eq_true (by omega)|assumption| (simp;done)| (simp;omega)):b=true:=h
theorem gF {b:Bool} (h:b=false:=by first|rfl|exact decide_eq_false (by omega)|assumption| (simp;done)| (simp;omega)):b=false:=h
theorem gFd {L M:List a0E} {a:a0E} (h:Fnd L a M:=by repeat (first|exact Fnd.here|apply Fnd.there)):Fnd L a M:=h
theorem gSp {L N M:List a0E} (h:b0A L N M:=by repeat (first|exact b0A.nil|apply b0A.cons (by repeat (first|exact Fnd.here|apply Fnd.there)))):b0A L N M:=h
theorem gSu {L M:List (Nat×Value)} (h:Sub L M:=by repeat (first|exact Sub.nil|refine Sub.cons rfl ?_)):Sub L M:=h
theorem i2Y {c:Cx} {dd:Option Tmp} {ty:TypeId} {pos:String} {af:Array Edge} {g:Option (Nat×Bool)} {env:List (Nat×Value)} {L M:List a0E} {x:Operand} {t:TypeId} {b n:Nat} {cs:Array Value} {e:TypeId} {fr:Nat×Nat}
 (d:o0N c.P t n=true) (f:evo env x=some (.pointer (some ⟨b,0,none⟩))) [hL:o0G L b (.cells cs e fr) M] (a:cs.size=n):a0P c ⟨dd,.load t x,ty,pos,af,g⟩ env L (.agg cs):=
 a0K d f (by omega) (a0I a)
section
variable {c:Cx} {env:List (Nat×Value)} {L:List a0E} {v:Value} {o:Oper}
theorem yLw (h:a0P c o env L v:=by first
 |exact d0H rfl|exact s1K rfl|exact b0N Sc.o rfl (by rfl)|exact k1N Fl.o rfl|exact s1A rfl
 |exact s1L rfl rfl (by omega)|exact s2H rfl rfl|exact d2L rfl rfl|exact b1F rfl rfl|exact s2G rfl rfl
 |exact h0V rfl gT rfl|exact h0H rfl gF rfl
 |exact z2L Tsl.o rfl rfl (by omega)|exact k1S Tar.o rfl rfl (by omega)
 |exact w2V rfl rfl (by omega)|exact w2W rfl rfl (by omega)|exact k1R Tsn.o Tin.o rfl
 |exact i2G Tst.o rfl|exact r0Z Tsl.o rfl|exact k1Q rfl rfl|exact z2G rfl rfl|exact z2H rfl rfl
 |exact s0P Pl.o rfl (by simp[m0O,nth,Value.cells]<;>rfl)
 |exact v0A rfl|exact w2Y rfl rfl rfl|exact w2X rfl rfl (by omega)|exact k1P rfl rfl (by omega)
 |exact i2Y Ag.o rfl (by rfl)|exact a0K Ag.o rfl (by simp) (by rfl)
 |exact z2K rfl rfl|exact z2J rfl rfl):a0P c o env L v:=h
end
structure Imp (r p:Prop):Prop where h:r→p
section
variable {c:Cx} {ops:Array Oper} {Q:Exit→Act→World→Prop} {rest:List Oper} {env:List (Nat×Value)} {L K:List a0E} {Qs:List (Nat×Value)→Prop} {steps:l0A} {plan:g0N} {Js:List p0G} {i:Nat}
 {d:Tmp} {op:Op} {ty:TypeId} {pos:String} {af:Array Edge} {v:Value} {j t:Nat} {want b:Bool} {x y body:Code} {z:Operand}
theorem qI1 (a:a0P c ⟨some d,op,ty,pos,af,none⟩ env L v) (hd:Nat.blt d c.n=true):Imp (OW c ops Q rest ((d,v)::env) L) (OW c ops Q (⟨some d,op,ty,pos,af,none⟩::rest) env L):=⟨fun h=>a0D a h hd⟩
theorem qI2 (e:(ops[j]?).bind (·.dst)=some t) (f:c0E env t=some (.bool b)) (hb:(b == want)=true) (g:a0P c ⟨some d,op,ty,pos,af,some (j,want)⟩ env L v) (hd:Nat.blt d c.n=true):
 Imp (OW c ops Q rest ((d,v)::env) L) (OW c ops Q (⟨some d,op,ty,pos,af,some (j,want)⟩::rest) env L):=⟨fun h=>b0Z g (fun _ _ a=>(p0V rfl e f a).trans hb) h hd⟩
theorem qI3 (e:(ops[j]?).bind (·.dst)=some t) (f:c0E env t=some (.bool b)) (hb:(b == want)=false) (hd:Nat.blt d c.n=true):
 Imp (OW c ops Q rest ((d,undef)::env) L) (OW c ops Q (⟨some d,op,ty,pos,af,some (j,want)⟩::rest) env L):=⟨fun h=>c0D rfl (fun _ _ a=>(p0V rfl e f a).trans hb) h hd⟩
theorem qI4:Imp (KW c Q .normal env L) (OW c ops Q [] env L):=⟨w2Z⟩
theorem qI5:Imp (CW c x (Exit.then (y.wp c.P Q) Q) env L) (CW c (x.seq y) Q env L):=⟨s1M⟩
theorem qI6 {l:List Oper} :Imp (OW c l.toArray Q l env L) (CW c (.region i l.toArray false) Q env L):=⟨i2H⟩
theorem qI7:Imp (KW c Q .normal env L) (CW c .skip Q env L):=⟨s2W⟩
theorem qI8:Imp (CW c body (Exit.inBlock i Q) env L) (CW c (.block i body) Q env L):=⟨n2Q⟩
theorem qI9:Imp (KW c Q (.exit i) env L) (CW c (.exit i) Q env L):=⟨s2X⟩
theorem qI10 (a:evo env z=some (.bool b)) (hb:b=true):Imp (CW c x Q env L) (CW c (.cond z x y) Q env L):=⟨d0P a hb⟩
theorem qI11 (a:evo env z=some (.bool b)) (hb:b=false):Imp (CW c y Q env L) (CW c (.cond z x y) Q env L):=⟨b0S a hb⟩
theorem qI12 {l:List Oper} (d:c.P.follows .mixedOrders=true) (b:Region.lexB .any l.toArray=true):Imp (OS c l.toArray L (fun a=>KW c Q .normal a L) l env) (CW c (.region i l.toArray true) Q env L):=⟨t2B d b⟩
theorem qI13 {R:List a0E} (a:b0A L K R):Imp (OM c ops Q K steps env L) (KW c (Exit.then (KM c ops Q K steps) Q) .normal env L):=⟨t2D a⟩
theorem qI14 {e:Exit} {b:Exit→Act→World→Prop} (d: ∀a w,y.wp c.P b a w→Q e a w):Imp (CW c y b env L) (KW c Q e env L):=⟨s2Y d⟩
theorem qI15 (hi:ops[i]? =some ⟨some d,op,ty,pos,af,none⟩) (a:a0P c ⟨some d,op,ty,pos,af,none⟩ env K v) (hd:Nat.blt d c.n=true):Imp (OM c ops Q K steps ((d,v)::env) L) (OM c ops Q K (.soft i steps) env L):=⟨fun h=>d0A hi a h hd⟩
theorem qI16 (hi:ops[i]? =some ⟨some d,op,ty,pos,af,some (j,want)⟩) (e:(ops[j]?).bind (·.dst)=some t) (f:c0E env t=some (.bool b)) (hb:(b == want)=true) (g:a0P c ⟨some d,op,ty,pos,af,some (j,want)⟩ env K v) (hd:Nat.blt d c.n=true):
 Imp (OM c ops Q K steps ((d,v)::env) L) (OM c ops Q K (.soft i steps) env L):=⟨fun h=>t0D hi g (fun _ _ a=>(p0V rfl e f a).trans hb) h hd⟩
theorem qI17 (hi:ops[i]? =some ⟨some d,op,ty,pos,af,some (j,want)⟩) (e:(ops[j]?).bind (·.dst)=some t) (f:c0E env t=some (.bool b)) (hb:(b == want)=false) (hd:Nat.blt d c.n=true):
 Imp (OM c ops Q K steps ((d,undef)::env) L) (OM c ops Q K (.soft i steps) env L):=⟨fun h=>t2C hi rfl (fun _ _ a=>(p0V rfl e f a).trans hb) h hd⟩
theorem qI18 {o:Oper} (hi:ops[i]? =some o):Imp (OW c ops (Exit.then (KM c ops Q K steps) Q) [o] env L) (OM c ops Q K (.hard i steps) env L):=⟨om_h hi⟩
theorem qI19:Imp (KW c Q .normal env L) (OM c ops Q K .done env L):=⟨x2C⟩
theorem qI20 (a:a0P c ⟨some d,op,ty,pos,af,none⟩ env L v) (hd:Nat.blt d c.n=true):Imp (OS c ops L Qs rest ((d,v)::env)) (OS c ops L Qs (⟨some d,op,ty,pos,af,none⟩::rest) env):=⟨fun h=>b0V a h hd⟩
theorem qI21 (e:(ops[j]?).bind (·.dst)=some t) (f:c0E env t=some (.bool b)) (hb:(b == want)=true) (g:a0P c ⟨some d,op,ty,pos,af,some (j,want)⟩ env L v) (hd:Nat.blt d c.n=true):
 Imp (OS c ops L Qs rest ((d,v)::env)) (OS c ops L Qs (⟨some d,op,ty,pos,af,some (j,want)⟩::rest) env):=⟨fun h=>n0H (fun _ _ a=>(p0V rfl e f a).trans hb) g h hd⟩
theorem qI22 (e:(ops[j]?).bind (·.dst)=some t) (f:c0E env t=some (.bool b)) (hb:(b == want)=false) (hd:Nat.blt d c.n=true):
 Imp (OS c ops L Qs rest ((d,undef)::env)) (OS c ops L Qs (⟨some d,op,ty,pos,af,some (j,want)⟩::rest) env):=⟨fun h=>s2Z (fun _ _ a=>(p0V rfl e f a).trans hb) rfl h hd⟩
theorem qI23:Imp (Qs env) (OS c ops L Qs [] env):=⟨x2B⟩
theorem qI24 (hi:ops[i]? =some ⟨some d,op,ty,pos,af,none⟩) (b:a0P c ⟨some d,op,ty,pos,af,none⟩ env K v) (a:(Js.all fun p=> !Nat.beq p.d d&&(c0E p.e0 d).isNone)=true) (hd:Nat.blt d c.n=true):
 Imp (OMf c ops Q K Js plan ((d,v)::env) L) (OMf c ops Q K Js (.soft i plan) env L):=⟨fun h=>h0L hi b h a hd⟩
theorem qI25 (hi:ops[i]? =some ⟨some d,op,ty,pos,af,some (j,want)⟩) (f:(ops[j]?).bind (·.dst)=some t) (g:c0E env t=some (.bool b)) (hb:(b == want)=true) (k:a0P c ⟨some d,op,ty,pos,af,some (j,want)⟩ env K v)
 (a:(Js.all fun p=> !Nat.beq p.d d&&(c0E p.e0 d).isNone)=true) (hd:Nat.blt d c.n=true):
 Imp (OMf c ops Q K Js plan ((d,v)::env) L) (OMf c ops Q K Js (.soft i plan) env L):=⟨fun h=>x2E hi k (fun _ _ e=>(p0V rfl f g e).trans hb) h a hd⟩
theorem qI26 (hi:ops[i]? =some ⟨some d,op,ty,pos,af,some (j,want)⟩) (f:(ops[j]?).bind (·.dst)=some t) (g:c0E env t=some (.bool b)) (hb:(b == want)=false)
 (a:(Js.all fun p=> !Nat.beq p.d d&&(c0E p.e0 d).isNone)=true) (hd:Nat.blt d c.n=true):
 Imp (OMf c ops Q K Js plan ((d,undef)::env) L) (OMf c ops Q K Js (.soft i plan) env L):=⟨fun h=>n2S hi rfl (fun _ _ e=>(p0V rfl f g e).trans hb) h a hd⟩
theorem qI27:Imp (KW c Q .normal env L) (OMf c ops Q K [] .done env L):=⟨t2E⟩
theorem qI29 {dd:Option Tmp} (d:(ops[j]?).bind (·.dst)=some t) (e:c0E env t=some (.bool b)) (hb:(b == want)=true):Imp (OW c ops Q (⟨dd,op,ty,pos,af,none⟩::rest) env L) (OW c ops Q (⟨dd,op,ty,pos,af,some (j,want)⟩::rest) env L):=
 ⟨fun h=>o0V (fun _ _ a=>(p0V rfl d e a).trans hb) h⟩
theorem qI30 {t n:Nat} {x y:Operand} {b:Nat} {cs vs:Array Value} {e:TypeId} {M:List a0E} [ht:Sz c.P t n] (g:evo env x=some (.pointer (some ⟨b,0,none⟩))) (i:evo env y=some (.agg vs)) (a:vs.size=n) (d:(vs.toList.all (·.oneCell'))=true)
 [hL:o0G L b (.cells cs e (0,0)) M] (f:vs.size=cs.size):Imp (OW c ops Q rest env (pts b (.cells vs e (0,0))::M)) (OW c ops Q (⟨none,.store t x y,ty,pos,af,none⟩::rest) env L):=
 ⟨fun h=>a0M ht.o g i a (fun u hu=>List.all_eq_true.1 d u hu) (by omega) (a0N f.symm) h⟩
theorem qI28 {t:TypeId} {x y:Operand} {b o:Nat} {cs:List Value} {e:TypeId} {v:Value} {M:List a0E} {cs':List Value} [ht:Sz c.P t 1] (g:evo env x=some (.pointer (some ⟨b,o,none⟩))) (i:evo env y=some v) (a:v.oneCell'=true)
 [hL:o0G L b (.cells cs.toArray e (0,0)) M] (f:Nat.blt o cs.length=true) (d:cs.set o v=cs'):Imp (OW c ops Q rest env (pts b (.cells cs'.toArray e (0,0))::M)) (OW c ops Q (⟨none,.store t x y,ty,pos,af,none⟩::rest) env L):=
 ⟨fun h=>d0T ht.o g i a f d h⟩
end
theorem gY {b want:Bool} (h:(b == want)=true:=by first|rfl|exact wTT gT|exact wFF gF):(b == want)=true:=h
theorem gN {b want:Bool} (h:(b == want)=false:=by first|rfl|exact wTF gF|exact wFT gT):(b == want)=false:=h
theorem sTp {r p:Prop} (h:Imp r p:=by first
 |exact qI1 yLw (by rfl)|exact qI14 (fun _ _ h=>h)|exact qI5|exact qI6|exact qI4|exact qI7|exact qI8
 |exact qI28 rfl rfl (by first|rfl|assumption) (by rfl) (by(try simp only[List.set_cons_zero,List.set_cons_succ,Nat.reduceAdd,Nat.reduceMul,Int.reduceToNat,Nat.zero_add,Nat.add_zero]);rfl)
 |exact qI2 rfl rfl gY yLw (by rfl)|exact qI3 rfl rfl gN (by rfl)
 |exact qI15 rfl yLw (by rfl)|exact qI18 rfl|exact qI13 gSp|exact qI19
 |exact qI20 yLw (by rfl)|exact qI23|exact qI24 rfl yLw (by rfl) (by rfl)|exact qI27
 |exact qI16 rfl rfl rfl gY yLw (by rfl)|exact qI17 rfl rfl rfl gN (by rfl)
 |exact qI21 rfl rfl gY yLw (by rfl)|exact qI22 rfl rfl gN (by rfl)
 |exact qI25 rfl rfl rfl gY yLw (by rfl) (by rfl)|exact qI26 rfl rfl rfl gN (by rfl) (by rfl)
 |exact qI10 rfl gT|exact qI11 rfl gF|exact qI9|exact qI12 Fol.o (by kernel_rfl)
 |exact qI30 rfl rfl (by rfl) (by rfl) (by rfl)|exact qI29 rfl rfl gY):Imp r p:=h
structure Ct (_n:Nat) (q p:Prop):Prop where h:q→p
theorem cT0 {p:Prop} :Ct 0 p p:=⟨id⟩
theorem cTp {n:Nat} {q r p:Prop} (h:Imp r p) (k:Ct n q r):Ct (n+1) q p:=⟨fun x=>h.h (k.h x)⟩
theorem go (n:Nat) {q p:Prop} (k:q) (h:Ct n q p:=by(repeat apply cTp sTp);exact cT0):p:=h.h k
theorem pn {q p:Prop} (k:q) (h:q→p:=by intro k;(repeat (first|with_reducible refine i1N ?_|with_reducible refine r1S ?_));exact k):p:=h k
theorem ns {q p:Prop} (k:q) (h:q→p:=by intro k;(try simp only[List.cons_append,List.nil_append]);exact k):p:=h k
theorem idh {A B:Type} {p:A→B→Prop} : ∀a w,p a w→p a w:=fun _ _ h=>h
theorem en {P:Program} {f:FuncId} {fn:Func} {a:Code} {args:List Value} {Pre:List a0E} {Post:Ending→List a0E→Prop} {n:Nat} {q:a0E→World→Prop} (b:P.funcs[f]? =some fn) (c:fn.ntmps=n) (k: ∀R w0,q R w0) (hb:fn.body=some a:=by rfl) (hl:Nat.ble args.length n=true:=by rfl)
 (h: ∀F w0,q F w0→CW ⟨P,n,[],w0⟩ a (BP P fn Post F w0) (j0X 0 args) (Pre++ [F]):=by intro F w0 k;simp only[j0X,List.cons_append,List.nil_append];exact k):a0G P f args.toArray Pre Post:=
 d2N b hb c hl fun F w0=>h F w0 (k F w0)
theorem cg (n:Nat) {S q r p:Prop} (a:S) (k:q) (b:Ct n r p:=by(repeat apply cTp sTp);exact cT0)
 (h2:S→q→r:=by intro a k;(first|refine b0X rfl Hb.o rfl a gSp ?_|refine i2I rfl Hb.o rfl a gSp ?_);(try simp only[List.cons_append,List.nil_append]);exact k):p:=b.h (h2 a k)
theorem ce (n:Nat) {S q r p:Prop} (a:S) (k:q) (b:Ct n r p:=by(repeat apply cTp sTp);exact cT0)
 (h2:S→q→r:=by intro a k;refine d0Z rfl Hb.o rfl a gSp ?_;exact k):p:=b.h (h2 a k)
section
variable {c:Cx} {ops:Array Oper} {Q:Exit→Act→World→Prop} {rest:List Oper} {env:List (Nat×Value)} {L M:List a0E} {d:Tmp} {ty:TypeId} {pos:String} {af:Array Edge} {id:Nat} {l:List Oper}
theorem mx {R:List a0E} (steps:l0A) (K:List a0E) (h:OM c l.toArray Q K steps env L) (a:c.P.follows .mixedOrders=true:=by exact Fol.o)
 (hB:(Region.noSelect l.toArray&&(Nat.beq steps.len l.length&&l0P l.toArray steps (Array.replicate l.length false)))=true:=by kernel_rfl)
 (hQ:b0T Q:=by repeat (first|with_reducible exact b0T.bp|with_reducible apply b0T.then|with_reducible apply b0T.inBlock)) (hK:b0A L K R:=by exact gSp):CW c (.region id l.toArray true) Q env L:=x2D steps K a hB hQ hK h
theorem fx {R:List a0E} (plan:g0N) (K:List a0E) (h:OMf c l.toArray Q K [] plan env L) (a:c.P.follows .mixedOrders=true:=by exact Fol.o)
 (hB:(Region.noSelect l.toArray&&(Nat.beq plan.len l.length&&k0V l.toArray plan [] (Array.replicate l.length false)))=true:=by kernel_rfl)
 (hQ:b0T Q:=by repeat (first|with_reducible exact b0T.bp|with_reducible apply b0T.then|with_reducible apply b0T.inBlock)) (hK:b0A L K R:=by exact gSp):CW c (.region id l.toArray true) Q env L:=n2U plan K a hB hQ hK h
theorem tl (n:Nat) {q:Prop} (k:q) (b:c.P.follows .mixedOrders=true:=by exact Fol.o) (hB:Region.lexTailB .any l.toArray n=true:=by kernel_rfl)
 (h:q→OS c l.toArray L (fun a=>OW c l.toArray Q (l.drop n) a L) (l.take n) env:=by intro k;simp only[List.take_succ_cons,List.take_zero,List.drop_succ_cons,List.drop_zero];exact k):CW c (.region id l.toArray true) Q env L:=t2A n b hB (h k)
theorem al {e:TypeId} {z:Value} [hz:Zr c.P e z] (h: ∀b,OW c ops Q rest ((d,.pointer (some ⟨b,0,none⟩))::env) (pts b (.cells z.cells e (0,0))::L)) (hd:Nat.blt d c.n=true:=by rfl):OW c ops Q (⟨some d,.alloc e,ty,pos,af,none⟩::rest) env L:=n2P hz.o h hd
theorem bx {e:TypeId} {x:Operand} {v:Value} (h: ∀b,OW c ops Q rest ((d,.pointer (some ⟨b,0,none⟩))::env) (pts b (.cells v.cells e (0,0))::L)) (a:evo env x=some v:=by rfl) (hd:Nat.blt d c.n=true:=by rfl):OW c ops Q (⟨some d,.box e x,ty,pos,af,none⟩::rest) env L:=x2A a h hd
theorem bl {t e size len:Nat} {parts:List (Nat×Operand)} {z:Value} {ps:List (Nat×Value)} {cs:List Value} [ht:Tsl c.P t e size] [hz:Zr c.P e z]
 (h: ∀b,OW c ops Q rest ((d,.slice (some ⟨b,0,none⟩) len len)::env) (pts b (.cells cs.toArray e (0,0))::L)) (a:z.cells.size=size:=by rfl) (hlen:Nat.ble (len*size) 16777216=true:=by rfl) (hv:p0X env parts=some ps:=by rfl)
 (hf:m0O (fun i=>some (i*size,size)) (r0L z.cells.toList len) (ps.map fun(i,v)=>(i,v.cells.toList))=some cs:=by simp[m0O,r0L,Value.cells]<;>rfl) (hd:Nat.blt d c.n=true:=by rfl):OW c ops Q (⟨some d,.buildSlice t len parts.toArray,ty,pos,af,none⟩::rest) env L:=r1R ht.o hz.o a hlen hv hf h hd
theorem fn {K:List a0E} {plan:g0N} {Js:List p0G} {E a:List (Nat×Value)} {F:a0E} {b R:List a0E} (d:Ok c ops env Js) (h:OMf c ops Q K Js plan env L) (e:Tl E a env:=by repeat (first|exact Tl.nil|apply Tl.cons)) (hF:Fnd b F L:=by exact gFd) (hK:b0A b K R:=by exact gSp):KW c (Exit.then (KMf c ops Q K Js plan E F) Q) .normal a b:=n2T e hF hK d h
theorem sb {t n:Nat} {x y:Operand} {b:Nat} {cs vs:Array Value} {e:TypeId} [ht:Sz c.P t n] (a: ∀x∈vs.toList,x.oneCell'=true) [hL:o0G L b (.cells cs e (0,0)) M] (h:OW c ops Q rest env (pts b (.cells vs e (0,0))::M)) (d:evo env x=some (.pointer (some ⟨b,0,none⟩)):=by rfl) (hy:evo env y=some (.agg vs):=by rfl) (hsz:vs.size=n:=by rfl)
 (hc:vs.size=cs.size:=by rfl):OW c ops Q (⟨none,.store t x y,ty,pos,af,none⟩::rest) env L:=a0M ht.o d hy hsz a (by omega) (a0N hc.symm) h
end
section
variable {P:Program} {n:Nat} {w0:World} {Q:Exit→Act→World→Prop} {env:List (Nat×Value)} {L R':List a0E} {fn:Func} {F:a0E}
theorem kx {S α:Type} {ft:TypeId} {R:S→List a0E} {val:α→Value} {o:Go.Sb.Out α×S} {e:Int} {s:S} (a:o=(.err e,s)) (hL:b0A L (F::R s) R':=by exact gSp):KW ⟨P,n,[],w0⟩ (BP P fn (Ran ft R val o) F w0) (.panic (t0H ft e)) env L:=b0W a (fun _ _ h=>h) hL
theorem rG {v u:Value} {N:List a0E} (b: ∀a w,BP P fn (a0T v N) F w0 .ret a w→Q .ret a w:=by exact fun _ _ h=>h) (hv:q0H fn env=some u:=by rfl) (hu:u=v:=by rfl) (hL:b0A L (F::N) R':=by exact gSp):CW ⟨P,n,[],w0⟩ .ret Q env L:=g1H b hv hu hL
theorem rE {X:Type} {p:X→Prop} {v:X→Value} {N:X→List a0E} {u:Value} (b: ∀a w,BP P fn (b0P p v N) F w0 .ret a w→Q .ret a w) (x:X) (d:p x) (c:q0H fn env=some u:=by rfl) (hu:u=v x:=by rfl) (hL:b0A L (F::N x) R':=by exact gSp):CW ⟨P,n,[],w0⟩ .ret Q env L:=g1I x d b c hu hL
theorem fE {X:Type} {p:X→Prop} {v:X→Value} {N:X→List a0E} {u:Value} (x:X) (b:p x) (a:q0H fn env=some u:=by rfl) (hu:u=v x:=by rfl) (hL:b0A L (F::N x) R':=by exact gSp):KW ⟨P,n,[],w0⟩ (BP P fn (b0P p v N) F w0) .normal env L:=a2S x b a hu hL
theorem rR {S α:Type} {ft:TypeId} {R:S→List a0E} {val:α→Value} {o:Go.Sb.Out α×S} {a:α} {s:S} {u:Value} (c: ∀a w,BP P fn (Ran ft R val o) F w0 .ret a w→Q .ret a w) (b:o=(.ok a,s)) (d:q0H fn env=some u:=by rfl) (hu:u=val a:=by rfl) (hL:b0A L (F::R s) R':=by exact gSp):CW ⟨P,n,[],w0⟩ .ret Q env L:=n0M b c d hu hL
theorem fR {S α:Type} {ft:TypeId} {R:S→List a0E} {val:α→Value} {o:Go.Sb.Out α×S} {a:α} {s:S} {u:Value} (b:o=(.ok a,s)) (c:q0H fn env=some u:=by rfl) (hu:u=val a:=by rfl) (hL:b0A L (F::R s) R':=by exact gSp):KW ⟨P,n,[],w0⟩ (BP P fn (Ran ft R val o) F w0) .normal env L:=x0B b c hu hL
end
section
variable {c:Cx} {Q:Exit→Act→World→Prop} {env:List (Nat×Value)} {L R:List a0E} {e:Exit}
theorem rd {X:Type} {E:X→List (Nat×Value)} {M:X→List a0E} {μ:X→Nat} {m:Nat} (b: ∀a w,(∃z,b0J c (E z) (M z) a w∧μ z<m)→Q e a w) (z:X) (d:μ z<m:=by first|omega| (simp only;omega)) (he:Sub env (E z):=by repeat (first|exact Sub.nil|refine Sub.cons rfl ?_)) (hL:b0A L (M z) R:=by exact gSp):KW c Q e env L:=e1A b z d he hL
theorem me {X:Type} {b:X→List (Nat×Value)} {L':X→List a0E} (f: ∀a w,(∃z,b0J c (b z) (L' z) a w)→Q e a w) (z:X) (d:Sub env (b z):=by repeat (first|exact Sub.nil|refine Sub.cons rfl ?_)) (hL:b0A L (L' z) R:=by exact gSp):KW c Q e env L:=n2R f z d hL
end
def l0A.r (a:Nat):Nat→l0A→l0A
 |0,p=>p
 |k+1,p=> .soft a (l0A.r (a+1) k p)
def g0N.r (a:Nat):Nat→g0N→g0N
 |0,p=>p
 |k+1,p=> .soft a (g0N.r (a+1) k p)
theorem wg {c:Cx} {env:List (Nat×Value)} {L:List a0E} {ops:Array Oper} {o:Oper} {j:Nat} {want b r:Bool} {t:Nat} (e:o.guard=some (j,want)) (f:(ops[j]?).bind (·.dst)=some t) (g:c0E env t=some (.bool b)) (h:(b == want)=r): ∀a w,b0J c env L a w→Region.wanted o (yielded ops a.tmps)=r:=fun _ _ d=>(p0V e f g d).trans h
theorem kr {α:Sort _} {a b:α} (h:a=b:=by kernel_rfl):a=b:=h
end
end Go.Sl
namespace Go.Proofs.Q
section
open Go
end
end Go.Proofs.Q
namespace Go.Sl
section
def x0D (P:Program) (t n:Nat) (k:IntKind):Bool:= !P.eqGuardType P.depth t&&(match P.underlying t with
 |some (.array m e)=>m == n&&(P.cellsOf e == 1&&((P.info? e).isSome&&(f0Q P e&&(match P.underlying e with|some (.int j)=>j == k|_=>false))))
 |_=>false)
def x0V (P:Program) (t n m:Nat) (k:IntKind):Bool:= !P.eqGuardType P.depth t&&(match P.underlying t with
 |some (.array j e)=>j == n&&(P.cellsOf e == m&&((P.info? e).isSome&&(o0N P e m&&x0D P e m k)))
 |_=>false)
theorem e1G {α:Type} [DecidableEq α] {P:Program} {w:World} {d e c:Nat} {f:α→Value} {xs ys:Array Value} {X Y:List α} (q:X.length=Y.length)
 (o: ∀i (h:i<X.length),(part e xs (i*c)).run P w= .ok (f X[i]) w) (p: ∀i (h:i<Y.length),(part e ys (i*c)).run P w= .ok (f Y[i]) w)
 (g: ∀a∈X,∀b∈Y,(Op.equalIn d e (f a) (f b)).run P w= .ok (decide (a=b)) w):
 ∀(m j:Nat),j+m=X.length→(Op.eqItems d e c xs ys (List.range' j m)).run P w= .ok (decide (X.drop j=Y.drop j)) w
 |0,j,hj=>by
  rw[List.drop_eq_nil_of_le (by omega),List.drop_eq_nil_of_le (by omega)];simp[Op.eqItems]
 |m+1,j,hj=>by
  have k:j<X.length:=by omega
  have l:j<Y.length:=by omega
  have r:=e1G q o p g m (j+1) (by omega);rw[List.range'_succ];simp only[Op.eqItems,Sem.run_bind,o j k,p j l,Result.andThen_ok,g _ (List.getElem_mem k) _ (List.getElem_mem l)];rw[List.drop_eq_getElem_cons k,List.drop_eq_getElem_cons l];by_cases e:X[j]=Y[j]
  ·simp only[e,decide_true,Bool.not_true,Bool.false_eq_true,if_false,r,List.cons.injEq,true_and]
  ·have n: ¬(X[j]::X.drop (j+1)=Y[j]::Y.drop (j+1)):=fun h=>e (List.cons.inj h).1;rw[decide_eq_false n];simp only[e,decide_false,Bool.not_false,if_true,Sem.run_pure]
theorem p1Q {P:Program} {w:World} {t n:Nat} {k:IntKind} (c:x0D P t n k=true) (d:Nat) {X Y:List Int} (q:X.length=n) (r:Y.length=n):
 (Op.equalIn (d+2) t (.agg (X.map (Value.int k)).toArray) (.agg (Y.map (Value.int k)).toArray)).run P w= .ok (decide (X=Y)) w:=by
 unfold x0D at c;simp only[Bool.and_eq_true]at c;obtain⟨_,c⟩:=c;split at c
 case h_2=>cases c
 rename_i m e hu;simp only[Bool.and_eq_true,beq_iff_eq]at c;obtain⟨rfl,l,hi,p,f⟩:=c;obtain⟨i,hi⟩:=Option.isSome_iff_exists.1 hi;split at f
 case h_2=>cases f
 rename_i j o;simp only[beq_iff_eq]at f;rw[run_equalIn_array w (d+1) _ _ hu hi,l,List.range_eq_range',←q];have g: ∀(Z:List Int) i (h:i<Z.length),(part e (Z.map (Value.int k)).toArray (i*1)).run P w= .ok (Value.int k Z[i]) w:=fun Z i h=>
  i1P p (by rw[Nat.mul_one,List.getElem?_map,List.getElem?_eq_getElem h];rfl) w
 exact e1G (X:=X) (Y:=Y) (by omega) (g X) (g Y) (fun a _ b _=>run_equalIn_int w d e k j a b o) X.length 0 (by omega)
theorem e2C {P:Program} {w:World} {t n m:Nat} {k:IntKind} (c:x0V P t n m k=true) (d:Nat) {X Y:List (List Int)} (l:X.length=n) (B:Y.length=n) (f: ∀x∈X,x.length=m) (g: ∀x∈Y,x.length=m):
 (Op.equalIn (d+3) t (.agg (X.flatMap (·.map (Value.int k))).toArray) (.agg (Y.flatMap (·.map (Value.int k))).toArray)).run P w= .ok (decide (X=Y)) w:=by
 unfold x0V at c;simp only[Bool.and_eq_true]at c;obtain⟨_,c⟩:=c;split at c
 case h_2=>cases c
 rename_i j e hu;simp only[Bool.and_eq_true,beq_iff_eq]at c;obtain⟨rfl,y,hi,s,A⟩:=c;obtain⟨i,hi⟩:=Option.isSome_iff_exists.1 hi;rw[run_equalIn_array w (d+2) _ _ hu hi,y,List.range_eq_range',←l];have r: ∀(Z:List (List Int)),(∀x∈Z,x.length=m)→ ∀i (h:i<Z.length),(part e (Z.flatMap (·.map (Value.int k))).toArray (i*m)).run P w= .ok (.agg (Z[i].map (Value.int k)).toArray) w:=by
  intro Z p i h;have o:(Z.flatMap (·.map (Value.int k))).toArray.extract (i*m) (i*m+m)=(Z[i].map (Value.int k)).toArray:=by
   apply Array.ext';simp only[Array.toList_extract,List.extract_eq_take_drop];clear l B f g
   induction Z generalizing i with
   |nil=>simp at h
   |cons z Z ih=>
    have u:=p z (List.mem_cons_self ..);cases i with
    |zero=>simp[←u,List.take_left']
    |succ i=>
     have:=ih (fun x l=>p x (List.mem_cons_of_mem _ l)) i (by simpa using h);simp only[List.flatMap_cons,List.getElem_cons_succ];rw[show(i+1)*m=m+i*m by rw[Nat.succ_mul,Nat.add_comm],show m+i*m+m- (m+i*m)=i*m+m-i*m by omega,←List.drop_drop,List.drop_left' (by simp[u])];exact this
  have q:i*m+m≤(Z.flatMap (·.map (Value.int k))).toArray.size:=by
   have:(Z.flatMap (·.map (Value.int k))).length=Z.length*m:=by
    clear o h
    induction Z with
    |nil=>simp
    |cons z Z ih=>simp[List.flatMap_cons,p z (List.mem_cons_self ..),ih (fun x l=>p x (List.mem_cons_of_mem _ l)),Nat.succ_mul,Nat.add_comm]
   rw[List.size_toArray,this,←Nat.succ_mul];exact Nat.mul_le_mul_right _ h
  simp only[part,Sem.run_bind,j0A s,Result.andThen_ok,if_true,j0H s];simp[o,q]
 exact e1G (X:=X) (Y:=Y) (by omega) (r X f) (r Y g) (fun a v b hb=>p1Q A d (f a v) (g b hb)) X.length 0 (by omega)
section
variable {c:Cx} {env:List (Nat×Value)} {L:List a0E} {d:Option Tmp} {ty:TypeId} {pos:String} {af:Array Edge} {g:Option (Nat×Bool)}
theorem i2Z {x y:Operand} {t yt:TypeId} {n:Nat} {k:IntKind} {X Y:List Int} (b:x0D c.P t n k=true) (l:evo env x=some (.agg (X.map (Value.int k)).toArray)) (m:evo env y=some (.agg (Y.map (Value.int k)).toArray)) (f:X.length=n) (i:Y.length=n):
 a0P c ⟨d,.binOp .eql t x y yt,ty,pos,af,g⟩ env L (.bool (decide (X=Y))):=by
 intro a w h;have j:c.P.eqGuardType c.P.depth t=false:=by
  unfold x0D at b;simp only[Bool.and_eq_true,Bool.not_eq_true']at b;exact b.1
 have e:(binOp .eql t (.agg (X.map (Value.int k)).toArray) (.agg (Y.map (Value.int k)).toArray)).run c.P w= .ok (.bool (decide (X=Y))) w:=by
  rw[run_eql_struct];rw[show(10000:Nat)=9998+2 from rfl,p1Q b 9998 f i];rfl
 simp only[execOp,h.eval l,h.eval m,Sem.run_bind,run_eqGuard_agg w .eql t x y _ _ j,Result.andThen_ok,e,Sem.run_pure]
theorem e2D {x y:Operand} {t yt:TypeId} {n m:Nat} {k:IntKind} {X Y:List (List Int)} (b:x0V c.P t n m k=true) (p:evo env x=some (.agg (X.flatMap (·.map (Value.int k))).toArray)) (q:evo env y=some (.agg (Y.flatMap (·.map (Value.int k))).toArray))
 (f:X.length=n) (i:Y.length=n) (j: ∀x∈X,x.length=m) (l: ∀x∈Y,x.length=m):
 a0P c ⟨d,.binOp .eql t x y yt,ty,pos,af,g⟩ env L (.bool (decide (X=Y))):=by
 intro a w h;have o:c.P.eqGuardType c.P.depth t=false:=by
  unfold x0V at b;simp only[Bool.and_eq_true,Bool.not_eq_true']at b;exact b.1
 have e:(binOp .eql t (.agg (X.flatMap (·.map (Value.int k))).toArray) (.agg (Y.flatMap (·.map (Value.int k))).toArray)).run c.P w= .ok (.bool (decide (X=Y))) w:=by
  rw[run_eql_struct];rw[show(10000:Nat)=9997+3 from rfl,e2C b 9997 f i j l];rfl
 simp only[execOp,h.eval p,h.eval q,Sem.run_bind,run_eqGuard_agg w .eql t x y _ _ o,Result.andThen_ok,e,Sem.run_pure]
end
end
end Go.Sl
namespace Go.Proofs.Q
section
open Go
end
section
open Go
end
section
open Go
end
section
open Go
end
section
open Go
end
section
open Go
end
section
open Go
end
section
open Go
end
section
open Go
end
section
open Go
end
end Go.Proofs.Q
namespace Go.Crc
def t1C:BitVec 32:=0x82f63b78#32
def stp (x:BitVec 32):BitVec 32:=(x >>> 1) ^^^ (if x.getLsbD 0 then t1C else 0#32)
theorem t2N (p q:Bool):(if(p ^^ q)then t1C else 0#32)=(if p then t1C else 0#32) ^^^ (if q then t1C else 0#32):=by
 cases p<;>cases q<;>decide
theorem t2O (a b:BitVec 32):stp (a ^^^ b)=stp a ^^^ stp b:=by
 unfold stp;rw[BitVec.getLsbD_xor,t2N];have h:(a ^^^ b) >>> 1=(a >>> 1) ^^^ (b >>> 1):=by
  apply BitVec.eq_of_getLsbD_eq;intro i hi;simp
 rw[h];ac_rfl
def m0F:Nat→BitVec 32→BitVec 32
 |0,x=>x
 |n+1,x=>m0F n (stp x)
theorem o2M (n:Nat): ∀a b,m0F n (a ^^^ b)=m0F n a ^^^ m0F n b:=by
 induction n with
 |zero=>intro a b;rfl
 |succ n ih=>intro a b;simp only[m0F,t2O,ih]
theorem t1D (m n:Nat): ∀x,m0F (m+n) x=m0F n (m0F m x):=by
 induction m with
 |zero=>intro x;simp[m0F]
 |succ m ih=>intro x;rw[show m+1+n=(m+n)+1 by omega];simp only[m0F,ih]
theorem t2P (y:BitVec 32) (h:y.getLsbD 31=false):stp (y <<< 1)=y:=by
 unfold stp;have b:(y <<< 1).getLsbD 0=false:=by simp
 rw[b];apply BitVec.eq_of_getLsbD_eq;intro i hi;by_cases a:i=31
 ·subst a;simpa using h
 ·simp;omega
theorem o2N (n:Nat): ∀(y:BitVec 32),(∀i,32-n≤i→y.getLsbD i=false)→n≤32→m0F n (y <<< n)=y:=by
 induction n with
 |zero=>intro y _ _;simp[m0F]
 |succ n ih=>
  intro y h b;have e:y <<< (n+1)=(y <<< n) <<< 1:=by rw[←BitVec.shiftLeft_add]
  have hb:(y <<< n).getLsbD 31=false:=by
   have a:=h (31-n) (by omega);rw[BitVec.getLsbD_shiftLeft,a];simp
  simp only[m0F];rw[e,t2P _ hb];exact ih y (fun i hi=>h i (by omega)) (by omega)
def tab (i:BitVec 32):BitVec 32:=m0F 4 i
def nib (x:BitVec 32):BitVec 32:=(x >>> 4) ^^^ tab (x &&& 15#32)
theorem j2A (x:BitVec 32):x=((x >>> 4) <<< 4) ^^^ (x &&& 15#32):=by
 apply BitVec.eq_of_getLsbD_eq;intro i hi;have a: ∀i,(15#32).getLsbD i=decide (i<4):=by
  intro i;by_cases h:i<32
  ·revert i;decide
  ·rw[BitVec.getLsbD_of_ge _ _ (by omega)];simp;omega
 by_cases b:i<4
 ·have c:(x &&& 15#32).getLsbD i=x.getLsbD i:=by rw[BitVec.getLsbD_and,a];simp[b]
  rw[BitVec.getLsbD_xor,c];simp[b]
 ·have:4+(i-4)=i:=by omega
  have c:(x &&& 15#32).getLsbD i=false:=by rw[BitVec.getLsbD_and,a];simp[b]
  rw[BitVec.getLsbD_xor,c];simp[this,hi,b]
theorem j2B (x:BitVec 32):nib x=m0F 4 x:=by
 have h:=j2A x;have a:m0F 4 ((x >>> 4) <<< 4)=x >>> 4:=by
  apply o2N
  ·intro i hi;simp;exact BitVec.getLsbD_of_ge _ _ (by omega)
  ·omega
 rw[show m0F 4 x=m0F 4 (((x >>> 4) <<< 4) ^^^ (x &&& 15#32))from congrArg _ h];rw[o2M,a];rfl
def byt (x:BitVec 32) (c:UInt8):BitVec 32:=m0F 8 (x ^^^ c.toBitVec.setWidth 32)
theorem t2Q (x:BitVec 32) (c:UInt8):byt x c=nib (nib (x ^^^ c.toBitVec.setWidth 32)):=by
 unfold byt;rw[j2B,j2B,←t1D]
def run (x:BitVec 32) (l:List UInt8):BitVec 32:=l.foldl byt x
def crc (l:List UInt8):BitVec 32:= ~~~ (run (~~~ 0#32) l)
theorem l1J (x:BitVec 32) (a b:List UInt8):run x (a++b)=run (run x a) b:=by simp[run]
-- linear part:the difference of two runs
end Go.Crc
namespace Go.Sb.Sha
abbrev W:=BitVec 32
def e0N:List W:= [
 0x428a2f98,0x71374491,0xb5c0fbcf,0xe9b5dba5,0x3956c25b,0x59f111f1,0x923f82a4,0xab1c5ed5,
 0xd807aa98,0x12835b01,0x243185be,0x550c7dc3,0x72be5d74,0x80deb1fe,0x9bdc06a7,0xc19bf174,
 0xe49b69c1,0xefbe4786,0x0fc19dc6,0x240ca1cc,0x2de92c6f,0x4a7484aa,0x5cb0a9dc,0x76f988da,
 0x983e5152,0xa831c66d,0xb00327c8,0xbf597fc7,0xc6e00bf3,0xd5a79147,0x06ca6351,0x14292967,
 0x27b70a85,0x2e1b2138,0x4d2c6dfc,0x53380d13,0x650a7354,0x766a0abb,0x81c2c92e,0x92722c85,
 0xa2bfe8a1,0xa81a664b,0xc24b8b70,0xc76c51a3,0xd192e819,0xd6990624,0xf40e3585,0x106aa070,
 0x19a4c116,0x1e376c08,0x2748774c,0x34b0bcb5,0x391c0cb3,0x4ed8aa4a,0x5b9cca4f,0x682e6ff3,
 0x748f82ee,0x78a5636f,0x84c87814,0x8cc70208,0x90befffa,0xa4506ceb,0xbef9a3f7,0xc67178f2]
def start:List W:= [0x6a09e667,0xbb67ae85,0x3c6ef372,0xa54ff53a,0x510e527f,0x9b05688c,0x1f83d9ab,0x5be0cd19]
def s0 (x:W):W:=x.rotateRight 7 ^^^ x.rotateRight 18 ^^^ x >>> 3
def s1 (x:W):W:=x.rotateRight 17 ^^^ x.rotateRight 19 ^^^ x >>> 10
def t0 (a:W):W:=a.rotateRight 2 ^^^ a.rotateRight 13 ^^^ a.rotateRight 22
def t1 (e:W):W:=e.rotateRight 6 ^^^ e.rotateRight 11 ^^^ e.rotateRight 25
def at_ (l:List W) (i:Nat):W:=l.getD i 0
def b1T (w:List W):W:=at_ w (w.length-16)+s0 (at_ w (w.length-15))+at_ w (w.length-7)+s1 (at_ w (w.length-2))
def more:Nat→List W→List W
 |0,w=>w
 |n+1,w=>more n (w++ [b1T w])
def n1Z (b:List UInt8):W:=(b.take 4).foldl (fun n c=>n <<< 8 ||| (c.toBitVec.setWidth 32)) 0
def f0S (b:List UInt8):List W:=(List.range 16).map fun i=>n1Z (b.drop (4*i))
def k0U (b:List UInt8):List W:=more 48 (f0S b)
def rnd (v:List W) (k w:W):List W:=
 let e:=at_ v 4;let a:=at_ v 0
 let t:=at_ v 7+k+w+t1 e+(e &&& at_ v 5 ^^^ ~~~e &&& at_ v 6)
 let u:=t0 a+(a &&& at_ v 1 ^^^ a &&& at_ v 2 ^^^ at_ v 1 &&& at_ v 2)
 [t+u,a,at_ v 1,at_ v 2,at_ v 3+t,e,at_ v 5,at_ v 6]
def j0U (w:List W) (v:List W):Nat→List W
 |0=>v
 |i+1=>rnd (j0U w v i) (at_ e0N i) (at_ w i)
def mix (h:List W) (b:List UInt8):List W:=List.zipWith (· + ·) h (j0U (k0U b) h 64)
def f0J:Nat→List W→List UInt8→List W
 |0,h,_=>h
 |n+1,h,b=>f0J n (mix h (b.take 64)) (b.drop 64)
def be4 (x:W):List UInt8:= [⟨(x >>> 24).setWidth 8⟩,⟨(x >>> 16).setWidth 8⟩,⟨(x >>> 8).setWidth 8⟩,⟨x.setWidth 8⟩]
def be8 (n:Nat):List UInt8:=(List.range 8).map fun i=>UInt8.ofNat (n/256^(7-i))
def m0Y (n:Nat):Nat:=(119-n%64)%64
def m0J (s:List UInt8):List UInt8:=s++128::(List.replicate (m0Y s.length) 0++be8 (8*s.length))
def sum (s:List UInt8):List UInt8:=(f0J ((m0J s).length/64) start (m0J s)).flatMap be4
end Go.Sb.Sha
namespace Go.Sb
structure Hd where
 at_:List Int
 sums:List Nat
 sum:B
 deriving Inhabited
def num (x:Int) (k:Nat):B:=beB (u64 x) k k
def g0G (b:B):Nat:=(Crc.crc b).toNat
def v0C (b:B):B:=g0E 60 b++beB (g0G (g0E 60 b)) 4 4
def h0Z (x:Hd):B:=v0C ([69]++x.at_.flatMap (num · 2)++x.sums.flatMap (fun s=>beB s 4 4)++x.sum)
def i0A (s:B):Out B:=
 if s.length<60 then .err 2 else if s.length<64 then .err 2 else
 if be ((s.drop 60).take 4)≠g0G (s.take 60)then .err 11 else if s.length≠64 then .err 1 else .ok (s.take 60)
def g0Y (k:Nat):Nat→B→List Nat
 |0,_=> []
 |n+1,l=>be (l.take k)::g0Y k n (l.drop k)
def i0B (s:B):Out Hd:=match i0A s with
 | .err e=> .err e
 | .big=> .big
 | .ok t=>if t.take 1≠ [69]then .err 1 else
  if a0R (t.drop 57)=false then .err 1 else
  .ok {at_:=(g0Y 2 4 (t.drop 1)).map Int.ofNat,sums:=g0Y 4 4 (t.drop 9),sum:=(t.drop 25).take 32}
def s0H {α:Type} (o:Out α):M α:=fun s=>(o,s)
def part (data:B) (k:Nat):B:=(data.drop (64*k)).take 64
def e0U (at_:Int):M Hd:=a0B (g0X at_) fun b=>s0H (i0B b)
def g0A (x:Hd):Nat→M B
 |0=>ret []
 |n+1=>let k:=4- (n+1);let i:=x.at_.getD k 0
  a0B (if 0<i then a0B (g0X i) fun s=>if g0G s≠x.sums.getD k 0 then n0L 11 else ret s else ret (a0L 64)) fun s=>
  a0B (g0A x n) fun r=>ret (s++r)
def l0D (at_:Int):M B:=if at_=0 then ret (a0L 256)else a0B (e0U at_) fun x=>g0A x 4
def r0X (at_:Int):M B:=if at_=0 then ret (a0L 32)else a0B (e0U at_) fun x=>ret x.sum
def t0K (at_:Int):M Unit:=if at_=0 then ret ()else k0S at_
def key (bits:Nat) (sum:B):B:=c0O bits sum
def n0I (data:B):Nat→M (List (Int×Nat))
 |0=>ret []
 |n+1=>let s:=part data (4- (n+1))
  a0B (if a0R s then ret (0,0)else a0B (e0S s) fun a=>ret (a,g0G s)) fun p=>
  a0B (n0I data n) fun r=>ret (p::r)
def j0E (data:B):M Int:=
 if data.length≠256 then n0L 4 else if a0R data then ret 0 else fun s=>
 match a0C (key s.bits (Sha.sum data)) s.index with
 |some a=>a0B (l0D a) (fun b=>if b≠data then n0L 9 else a0B (k0S a) fun _=>ret a) s
 |none=>a0B (n0I data 4) (fun ps=>
  a0B (e0S (h0Z {at_:=ps.map (·.1),sums:=ps.map (·.2),sum:=Sha.sum data})) fun a=>
  a0B (fun s=>f0F (key s.bits (Sha.sum data)) a s) fun _=>ret a) s
def j0K (i:Int):M Unit:=if 0<i then a0B (e0G i) fun _=>ret ()else ret ()
def g0O (at_:Int):M Unit:=if at_=0 then ret ()else
 a0B (e0U at_) fun x=>a0B (e0G at_) fun b=>if b then a0B (d0V j0K x.at_) fun _ s=>h0O (key s.bits x.sum) s else ret ()
def h0P (i:Int):M Unit:=if 0<i then a0B (e0Z i) fun b=>if b then ret ()else n0L 1 else ret ()
def k0B (at_:Int):M Unit:=if at_=0 then ret ()else
 a0B (e0Z at_) fun b=>if b then a0B (e0U at_) fun x=>a0B (d0V h0P x.at_) fun _ s=>
  match a0C (key s.bits x.sum) s.index with
  |some _=>(.err 9,s)
  |none=>(.ok (),{s with index:=b0O (key s.bits x.sum) at_ s.index})else ret ()
structure Nd where
 kids:List Int
 sum:B
 deriving Inhabited
def j0L (a:Nat) (n:Nd):B:=v0C ([78]++num a 1++n.kids.flatMap (num · 2)++n.sum)
def g0C (a:Nat) (s:B):Out Nd:=match i0A s with
 | .err e=> .err e
 | .big=> .big
 | .ok t=>if t.take 1≠ [78]then .err 1 else if be ((t.drop 1).take 1)≠a then .err 1 else
  if a0R (t.drop 50)=false then .err 1 else
  .ok {kids:=(g0Y 2 8 (t.drop 2)).map Int.ofNat,sum:=(t.drop 18).take 32}
def e0H (a:Nat) (sums:List B):B:=if sums.all (· == a0L 32)then a0L 32 else Sha.sum ([78,UInt8.ofNat a]++sums.flatten)
def e0L:List Int:= [0,0,0,0,0,0,0,0]
def load (at_:Int) (a:Nat):M Nd:=if at_=0 then ret {kids:=e0L,sum:=a0L 32} else a0B (g0X at_) fun b=>s0H (g0C a b)
def h0E (at_:Int) (a:Nat):M Unit:=if at_=0 then ret ()else if a=0 then t0K at_ else k0S at_
def g0P:Nat→Int→M Unit
 |0,a=>g0O a
 |l+1,a=>if a=0 then ret ()else a0B (load a l) fun n=>a0B (e0G a) fun b=>if b then d0V (g0P l) n.kids else ret ()
def v0D (a:Int) (b:Nat):M Unit:=g0P (b+1) a
def h0F (a:Nat):List Int→M (List B)
 | []=>ret []
 |k::l=>a0B (match a with|0=>r0X k|n+1=>a0B (load k n) fun x=>ret x.sum) fun s=>a0B (h0F a l) fun r=>ret (s::r)
def b0Q (a:Nat) (at_:Nat):Nat×Nat:=(at_/8^a%8,at_%8^a)
def i0W:Nat→Int→Nat→Int→M Int
 |level,root,at_,to_=>
  a0B (load root level) fun n=>a0B (d0V (h0E · level) n.kids) fun _=>a0B (v0D root level) fun _=>
  a0B (match level with
   |0=>a0B (g0O (n.kids.getD (b0Q level at_).1 0)) fun _=>ret to_
   |l+1=>i0W l (n.kids.getD (b0Q level at_).1 0) (b0Q level at_).2 to_) fun r=>
  let kids:=n.kids.set (b0Q level at_).1 r
  if kids=e0L then ret 0 else a0B (h0F level kids) fun ss=>e0S (j0L level {kids:=kids,sum:=e0H level ss})
def l0E:Nat→Int→Nat→M Int
 |0,root,at_=>a0B (load root 0) fun n=>ret (n.kids.getD (b0Q 0 at_).1 0)
 |l+1,root,at_=>a0B (load root (l+1)) fun n=>l0E l (n.kids.getD (b0Q (l+1) at_).1 0) (b0Q (l+1) at_).2
def m0G (root:Int) (at_:Nat) (to_:Int):M Int:=a0B (l0E 2 root at_) fun x=>if x=to_ then a0B (g0O to_) fun _=>ret root else i0W 2 root at_ to_
def i1Y (root:Int):M B:=a0B (load root 2) fun n=>ret n.sum
def f0B:Nat→Int→M Unit
 |0,a=>k0B a
 |l+1,a=>if a=0 then ret ()else a0B (e0Z a) fun b=>if b then a0B (load a l) fun n=>d0V (f0B l) n.kids else ret ()
def v0Q (root:Int):M Unit:=f0B 3 root
def s2J {C:Type} (see:Nat→Int→Run (St×C) Bool):Nat→Nat→Int→Run (St×C) Bool
 |level,from_,at_=>fun(s,c)=>match load at_ level s with
  | (.err e,s)=>(.err e,(s,c))
  | (.big,s)=>(.big,(s,c))
  | (.ok n,s)=>
   let rec go (k:Nat→Int→Run (St×C) Bool):Nat→List Int→Run (St×C) Bool
    |_,[]=>ret true
    |i,a::l=>if a=0 then go k (i+1) l else a0B (k i a) fun b=>if b then go k (i+1) l else ret false
   go (match level with
    |0=>fun i a=>see (from_+i) a
    |l+1=>fun i a=>s2J see l (from_+i*8^level) a) 0 n.kids (s,c)
def x2N (root:Int) (from_ to_:Nat):M (List (Nat×Int)):=fun s=>
 match s2J (C:=List (Nat×Int)) (fun at_ x=>fun(s,c)=>if to_≤at_ then(.ok false,(s,c))else if from_≤at_ then(.ok true,(s,c++ [(at_,x)]))else(.ok true,(s,c))) 2 0 root (s,[])with
 | (.err e,(s,_))=>(.err e,s)
 | (.big,(s,_))=>(.big,s)
 | (.ok _,(s,c))=>(.ok c,s)
def x2O (root:Int) (from_ to_:Nat):M Int:=a0B (x2N root from_ to_) fun l=>s0G (fun r x=>m0G r x.1 0) root l
def find (id:Int):M Ent:=fun s=>match a0C id s.vols with|some x=>(.ok x,s)|none=>(.err 5,s)
def l0Z (id:Int):M Ent:=a0B (find id) fun x=>if x.only then n0L 7 else ret x
def m0H (x:Ent):M Unit:=s0R x.id x
def l0U (x:Ent) (at_ n:Int):M Unit:=if at_<0∨n<0∨x.size<at_∨x.size-at_<n then n0L 6 else ret ()
def m0Z (x:Int):Int:=x%4294967296
def u0I (x:Ent):M Int:=fun s=>
 let y:= {x with id:=s.next,born:=s.epoch}
 a0B (p0Y (m0Z (s.next+1))) (fun _=>a0B (m0H y) fun _=>ret y.id) s
def p0K (x:Ent) (i:Nat):M B:=a0B (l0E 2 x.root i) l0D
def r0Y (x:Ent) (i:Nat) (data:B):M Ent:=a0B (j0E data) fun a=>a0B (m0G x.root i a) fun r=>ret {x with root:=r}
def j0S:Nat→Ent→Nat→B→M Ent
 |0,x,_,_=>ret x
 |k+1,x,at_,data=>if data= []then ret x else
  let i:=at_/4;let f:=at_%4*64;let n:=min data.length (256-f)
  a0B (p0K x i) fun a=>a0B (r0Y x i (a.take f++data.take n++a.drop (f+n))) fun x=>j0S k x (at_+n/64) (data.drop n)
def e0T (x:Ent) (at_:Nat) (data:B):M Ent:=j0S data.length x at_ data
def j2C (x:Ent) (from_ to_:Nat):M Ent:=
 let a:=(from_+3)/4;let b:=to_/4
 if b≤a then e0T x from_ (a0L ((to_-from_)*64))else
 a0B (e0T x from_ (a0L ((a*4-from_)*64))) fun x=>a0B (x2O x.root a b) fun r=>
 e0T {x with root:=r} (b*4) (a0L ((to_-b*4)*64))
def also {C α:Type} (m:M α) (f:α→C→C):Run (St×C) Unit:=fun(s,c)=>match m s with
 | (.ok a,s)=>(.ok (),(s,f a c))
 | (.err e,s)=>(.err e,(s,c))
 | (.big,s)=>(.big,(s,c))
def k0C (more:Nat):M Unit:=fun s=>
 let room:Int:=2*(s.vols.length+more:Nat)
 a0B (o0R room) (fun _ s=>if 0<more∧(a0Y s:Int)<room then(.err 8,s)else(.ok (),s)) s
def call (more:Nat) (run:M Unit):M Int:=fun s=>match o0J (C:=Unit) (also (a0B (k0C more) fun _=>run) fun _ c=>c) (s,())with
 | (o,(s,_))=>(o,s)
def g0L:Ent:= {id:=0,parent:=0,only:=false,size:=0,root:=0,born:=0}
def k0D:Nat→Ent→Nat→Nat→M B
 |0,_,_,_=>ret []
 |k+1,x,at_,n=>if n=0 then ret []else
  let f:=at_%4;let m:=min n (4-f)
  a0B (p0K x (at_/4)) fun b=>a0B (k0D k x (at_+m) (n-m)) fun r=>ret ((b.drop (f*64)).take (m*64)++r)
def f0X (d:Dk) (fr bits:Nat) (next:Int):St:= {d:=d,fr:=fr,g:=List.replicate (d.l.length-fr) 0,refs:= [],young:= [],gone:= [],keep:=0,log:= [],depth:=0,bits:=min (max bits 1) 256,index:= [],vols:= [],next:=max next 1,epoch:=1}
end Go.Sb
namespace Go.Proofs.Q
section
open Go
end
section
open Go
end
section
open Go
end
end Go.Proofs.Q

/- Part of the proof; no statement of its own. -/
import Derived.Test.YtpinhnikemamjaaGreatDoorB18
import Derived.Test.YtpinhnikemamjaaGreatDoorB24
import Derived.Test.YtpinhnikemamjaaGreatDoorB25
import Derived.Test.YtpinhnikemamjaaGreatDoorB23
set_option linter.all false
set_option maxRecDepth 4000
set_option maxHeartbeats 4000000
attribute [local irreducible] Go.Sl.a0O Go.Sl.OW Go.Sl.CW Go.Sl.OS Go.Sl.OM Go.Sl.OMf Go.Sl.KM
namespace Go.Proofs.Q
open Go.Sl Go.Sb Tryz
section
abbrev RSb (W:World) (a:Ad) (bits:Nat) (s:St):List a0C:= [whole W,dkC a s.d,dkR a s.d,m0K (l0R s.d),stC a bits,mpC a,HL a s]
theorem u1O {W:World} {a:Ad} {bits:Nat} {α:Type} {val:α→Value} {o:Out α×St} {e:Ending} {L:List a0C} (h:o.2.bits=bits):Ran fT (RSb W a bits) val o e L↔Ran fT (RS W a) val o e L:=by
 obtain⟨o,t⟩:=o
 have h:t.bits=bits:=h
 subst h
 cases o<;>exact Iff.rfl
theorem _root_.Go.Sl.a0F.mono_ran {P:Program} {f:FuncId} {args:Array Value} {Pre:List a0C} {Post Post':Ending→List a0C→Prop} (h:a0F P f args Pre Post) (hp: ∀e L,Post e L→Post' e L):a0F P f args Pre Post':=by
 intro w F hs
 refine(h w F hs).mono ?_
 rintro e w' ⟨L',h1,h2⟩
 exact⟨L',hp _ _ h1,h2⟩
theorem i1N (data:B): ∀n,PB (m0X data n)
 |0=>d0C _
 |n+1=>by
  unfold m0X
  refine b0P ?_ fun p=>b0P (i1N data n) fun r=>d0C _
  split
  ·exact d0C _
  ·exact b0P (s0K _) fun _=>d0C _
theorem g1T (k:B) (v:Int):PB (e0X k v):=s0J _ (fun s=> {s with index:=b0T k v s.index}) fun _=>rfl
theorem j2D (W:World) (a:Ad) (s:St) (b:B) (bits:Nat) (hb:b.length≤1000000) (hbits:s.bits=bits) (hnb:(e0M b s).1≠ .big):a0F prog 202 #[ptr a.heap,b0B b] (RSb W a bits s) (Ran fT (RSb W a bits) a0J (e0M b s)):=by
 subst hbits
 exact(p1A W a s b hb hnb).mono_ran (fun e L h=>(u1O (s0K b s)).2 h)
def z0F (ps:List (Int×Nat)):List (Int×Nat):=ps++List.replicate (4-ps.length) (0,0)
def hdP (data:B) (ps:List (Int×Nat)):Hd:= {at_:=(z0F ps).map (·.1),sums:=(z0F ps).map (·.2),sum:=Sha.sum data}
theorem j2E {ps:List (Int×Nat)} (h:ps.length<4):z0F (ps++ [(0,0)])=z0F ps:=by
 unfold z0F
 obtain⟨m,hm⟩: ∃m,4-ps.length=m+1:=⟨4-ps.length-1,by omega⟩
 rw[List.length_append,hm,List.replicate_succ,List.append_assoc]
 simp only[List.length_cons,List.length_nil,List.singleton_append]
 rw[show 4- (ps.length+(0+1))=m by omega]
theorem u1P {ps:List (Int×Nat)} (h:ps.length≤4):(z0F ps).length=4:=by unfold z0F;simp;omega
theorem i1O {data:B} {ps:List (Int×Nat)} (h:ps.length≤4) (hc: ∀p∈ps,p.2<4294967296):y0N (hdP data ps):=by
 refine⟨by simp[hdP,u1P h],by simp[hdP,u1P h],fun c hcm=> ?_,p0L data⟩
 simp only[hdP,List.mem_map]at hcm
 obtain⟨p,hp,rfl⟩:=hcm
 unfold z0F at hp
 rcases List.mem_append.1 hp with hp|hp
 ·exact hc p hp
 ·rw[List.eq_of_mem_replicate hp];decide
theorem o2J {data:B} {ps:List (Int×Nat)} (h:ps.length=4):hdP data ps= {at_:=ps.map (·.1),sums:=ps.map (·.2),sum:=Sha.sum data} :=by
 unfold hdP z0F;rw[h];simp
theorem a2L {data:B} {ps:List (Int×Nat)} {i o1 o2:Nat} {x:Int} {c:Nat} (h:ps.length=i) (hi:i<4) (h1:o1=i) (h2:o2=4+i):((hdL (hdP data ps)).set o1 (a0J x)).set o2 (.int .u32 (c:Nat))=hdL (hdP data (ps++ [(x,c)])):=by
 subst h1 h2
 unfold hdL hdP z0F
 match ps,h,hi with
 | [],h,_=>subst h;rfl
 | [p],h,_=>subst h;rfl
 | [p,q],h,_=>subst h;rfl
 | [p,q,r],h,_=>subst h;rfl
 |_::_::_::_::_,h,hi=>simp only[List.length_cons]at h;omega
def r0X (data:B) (i:Nat) (ps:List (Int×Nat)) (s:St):Out Int×St:=a0B (m0X data (4-i)) (fun r=>a0B (e0M (h0F {at_:=(ps++r).map (·.1),sums:=(ps++r).map (·.2),sum:=Sha.sum data})) fun a=>a0B (fun s=>e0X (key s.bits (Sha.sum data)) a s) fun _=>ret a) s
section
variable {data:B} {i:Nat} {ps:List (Int×Nat)} {s t:St}
theorem c1A (h:i<4):r0X data i ps s=a0B (a0B (if a0R (Go.Sb.part data i)then ret (0,0)else a0B (e0M (Go.Sb.part data i)) fun a=>ret (a,f0V (Go.Sb.part data i))) fun p=>a0B (m0X data (4- (i+1))) fun r=>ret (p::r)) (fun r=>a0B (e0M (h0F {at_:=(ps++r).map (·.1),sums:=(ps++r).map (·.2),sum:=Sha.sum data})) fun a=>a0B (fun s=>e0X (key s.bits (Sha.sum data)) a s) fun _=>ret a) s:=by
 unfold r0X
 obtain⟨n,hn⟩: ∃n,4-i=n+1:=⟨4-i-1,by omega⟩
 have hk:4- (n+1)=i:=by omega
 have hk2:4- (i+1)=n:=by omega
 rw[hn,hk2]
 conv=>lhs;unfold m0X
 simp only[hk]
theorem p1Q (c:M (Int×Nat)) {p:Int×Nat} (hc:c s=(.ok p,t)):a0B (a0B c fun p=>a0B (m0X data (4- (i+1))) fun r=>ret (p::r)) (fun r=>a0B (e0M (h0F {at_:=(ps++r).map (·.1),sums:=(ps++r).map (·.2),sum:=Sha.sum data})) fun a=>a0B (fun s=>e0X (key s.bits (Sha.sum data)) a s) fun _=>ret a) s=r0X data (i+1) (ps++ [p]) t:=by
 unfold r0X
 simp only[List.append_assoc,List.singleton_append]
 unfold a0B
 rw[hc]
 simp only
 cases m0X data (4- (i+1)) t with
 |mk o u=>cases o<;>rfl
theorem j2F (h:i<4) (hz:a0R (Go.Sb.part data i)=true):r0X data i ps s=r0X data (i+1) (ps++ [(0,0)]) s:=by
 rw[c1A h];exact p1Q _ (by rw[if_pos hz];rfl)
theorem t2P {a:Int} (h:i<4) (hz:a0R (Go.Sb.part data i)=false) (ho:e0M (Go.Sb.part data i) s=(.ok a,t)):r0X data i ps s=r0X data (i+1) (ps++ [(a,f0V (Go.Sb.part data i))]) t:=by
 rw[c1A h];exact p1Q _ (by rw[if_neg (by simp[hz]),a0A ho];rfl)
theorem o2K {e:Int} (h:i<4) (hz:a0R (Go.Sb.part data i)=false) (ho:e0M (Go.Sb.part data i) s=(.err e,t)):r0X data i ps s=(.err e,t):=by
 rw[c1A h]
 rw[a0I]
 rw[a0I]
 rw[if_neg (by simp[hz]),a0I ho]
theorem o2L (h:i<4) (hz:a0R (Go.Sb.part data i)=false) (hnb:(r0X data i ps s).1≠ .big):(e0M (Go.Sb.part data i) s).1≠ .big:=by
 rw[c1A h]at hnb
 have h1:=c0I (c0I hnb)
 rw[if_neg (by simp[hz])]at h1
 exact c0I h1
theorem o2M (h:ps.length=4):r0X data 4 ps s=a0B (e0M (h0F (hdP data ps))) (fun a=>a0B (fun s=>e0X (key s.bits (Sha.sum data)) a s) fun _=>ret a) s:=by
 unfold r0X
 rw[a0A (show m0X data (4-4) s=(.ok [],s)from rfl),List.append_nil,o2J h]
theorem u1Q {k:B} {v:Int} (h:(e0X k v s).1≠ .big):s.log.length<1000000000:=t0E h fun h'=>by simp[e0X,a0B,back,h']
end
theorem u1R {K V:Type} [DecidableEq K] {k:K} {v:V} {p:K×V} : ∀ {m:List (K×V)},p∈b0T k v m→p=(k,v)∨p∈m
 | [],h=>by simpa [b0T] using h
 | (j,u)::m,h=>by
  unfold b0T at h
  split at h
  ·rcases List.mem_cons.1 h with h|h
   ·exact .inl h
   ·exact .inr (List.mem_cons_of_mem _ h)
  ·rcases List.mem_cons.1 h with h|h
   ·exact .inr (by rw[h];exact List.mem_cons_self ..)
   ·rcases u1R h with h|h
    ·exact .inl h
    ·exact .inr (List.mem_cons_of_mem _ h)
theorem o2N {data:B} {i lo hi:Nat} (h1:lo=64*i) (h2:hi=64*i+64):(bs data).extract lo hi=bs (Go.Sb.part data i):=by
 subst h1 h2
 rw[k1O,List.drop_take,show 64*i+64-64*i=64 by omega];rfl
theorem u1S {place:Nat→Option (Nat×Nat)} {i off size:Nat} {vs cs:List Value} (h:place i=some (off,size)) (h1:vs.length=size) (h2:off+size≤cs.length):l0Y place cs [(i,vs)]=some (cs.take off++(vs++cs.drop (off+size))):=by
 unfold l0Y
 rw[h]
 simp only[l0Y]
 rw[show(Nat.beq vs.length size&&Nat.ble (off+vs.length) cs.length)=true by simp[h1,h2],h1]
theorem e1J {b:B} (h:b.length≤60):(u0D b).length=64:=by unfold u0D;rw[List.length_append,q0H h,m0A]
theorem t2Q {x:Hd} (h:y0N x):(h0F x).length=64:=by
 unfold h0F
 refine e1J ?_
 rw[List.length_append,List.length_append,List.length_append,h0S (k:=2) (fun a=>j0W a 2),h0S (k:=4) (fun a=>m0A a 4 4),h.n,h.m,h.sum]
 decide
set_option maxRecDepth 8000 in
theorem o2O (W:World) (hW:h0W W) (a:Ad) (s:St) (data:B) (h256:data.length=256) (hz:a0R data=false) (hbits:s.bits≤256) (hm:a0E (key s.bits (Sha.sum data)) s.index=none) (hnb:(i0Q data s).1≠ .big):
 a0F prog 164 #[ptr a.st,b0B data] (RS W a s) (Ran fT (RS W a) a0J (i0Q data s)):=by
 have e0':i0Q data s=r0X data 0 [] s:=by
  unfold i0Q;rw[if_neg (by simp[h256]),if_neg (by simp[hz])];simp only[hm];rfl
 have hpb:(i0Q data s).2.bits=s.bits:=by
  rw[e0']
  exact b0P (i1N data 4) (fun r=>b0P (s0K _) fun a=>b0P (l1E (m:=fun s=>e0X (key s.bits (Sha.sum data)) a) fun _=>g1T _ _) fun _=>d0C _) s
 refine a0F.mono_ran (Post:=Ran fT (RSb W a s.bits) a0J (i0Q data s)) ?_ (fun e L h=>(u1O hpb).1 h)
 have hsz0:(hdL (hdP data [])).toArray.size=40:=by rw[List.size_toArray,w0R (i1O (by simp) (by simp))]
 have e0:i0Q data s=r0X data 0 [] s:=by
  unfold i0Q;rw[if_neg (by simp[h256]),if_neg (by simp[hz])];simp only[hm];rfl
 have hD:=p0L data
 have hs2:((Sha.sum data).map a0Q).toArray.size=32:=by rw[List.size_toArray,List.length_map,hD]
 refine en func164 ntmps164 fun R w0=> ?_
 refine go 10 ?_
 rw[b0F]
 refine go 3 ?_
 refine b0R rfl (by rw[h256];rfl) ?_
 refine cg 6 (y0M data (by omega)) ?_
 refine go 8 ?_
 refine bl fun b19=> ?_
 refine e0K (fun w hs=>n1E (n:=1) (b:=b19) (l:= [b0B data]) (e:=9) rfl ((show Fnd _ (pts b19 _) _ from gFd).sat hs) (by simp[maxLen])) ?_
 refine cg 0 (n1D W hW (.slice (some ⟨b19,0,none⟩) 1 1) [data] (by simp[h256]) (by simp)) ?_
 rw[show [data].flatten=data by simp]
 refine al fun b5=> ?_
 refine a0M Sz.o rfl rfl hs2 (fun x hx=>by simp at hx;obtain⟨_,_,rfl⟩:=hx;rfl) (by rw[hs2];simp[Value.cells]) (a0N (by rw[hs2];simp[Value.cells])) ?_
 refine go 4 ?_
 refine e0J gFd fun by_ gv gc o hg hok=> ?_
 simp only[d0M,c0Y,List.cons_append,List.nil_append]
 refine mx (.r 0 9 (.hard 9 (.r 10 6 .done))) [stC a s.bits,pts b5 (.cells ((Sha.sum data).map a0Q).toArray 44 (0,0)),b0L a.ix e0C a0J s.index] ?_
 refine go 4 ?_
 refine c0V rfl (a0L Ag.o rfl (by rw[hs2];omega) (a0G hs2)) ?_
 refine cg 5 (v0W (Sha.sum data) s.bits hD hbits) ?_
 refine go 2 ?_
 refine c0V rfl (p0J (ek:=e0C) (ev:=a0J) (k:=c0W s.bits (Sha.sum data)) d0I.o d1U hok.2.2.2 (by rw[i0J,hD]) Zr.o rfl rfl gFd f0J) ?_
 refine go 6 ?_
 refine b0G (d0A hg hok gSp) ?_
 rw[show a0E (c0W s.bits (Sha.sum data)) s.index=none from hm]
 refine go 11 ?_
 refine a0D (a0L Ag.o rfl (by rw[hs2];omega) (a0G hs2)) ?_
 refine a0D (s0B (cs:=hdL (hdP data [])) Pl.o rfl ((u1S (i:=2) (off:=8) (size:=32) (vs:=(Sha.sum data).map a0Q) rfl (by simp[hD]) (by exact Nat.le_refl 40)).trans (congrArg some (show(List.replicate 4 (a0J 0)++List.replicate 4 (Value.int .u32 0))++((Sha.sum data).map a0Q++ [])=_ by rw[List.append_nil];rfl)))) ?_
 refine al fun b8=> ?_
 refine a0M Sz.o rfl rfl hsz0 (f1W _) (by rw[hsz0];exact Nat.le_refl 40) (a0N (by rw[hsz0];rfl)) ?_
 refine go 9 ?_
 refine a0V (X:= {y:Nat×St×List (Int×Nat) // y.1≤4∧y.2.2.length=y.1∧(∀p∈y.2.2,p.2<4294967296)∧y.2.1.bits=s.bits∧i0Q data s=r0X data y.1 y.2.2 y.2.1}) (fun y=> [(0,ptr a.st),(1,b0B data),(5,ptr b5),(8,ptr b8),(51,.int .i64 y.1.1)]) (fun y=>RSb W a s.bits y.1.2.1++ [pts b8 (.cells (hdL (hdP data y.1.2.2)).toArray 230 (0,0)),pts b5 (.cells ((Sha.sum data).map a0Q).toArray 44 (0,0)),R]) (fun y=>4-y.1.1) ⟨(0,s,[]),by omega,rfl,by simp,rfl,e0⟩ gSu gSp ?_
 rintro⟨⟨i,u,ps⟩,hi,hpl,hpc,hub,he⟩ m0 hm0
 try simp only at hm0
 try dsimp only
 simp only at hi hpl hpc hub he
 refine ns ?_
 refine go 6 ?_
 refine a0P rfl (fun hb52=> ?_) (fun hb52=> ?_)
 ·have hi4:i<4:=by have:=of_decide_eq_true hb52;omega
  have hbz:(bs data).size=256:=by rw[b0F,h256]
  have hpt:=Go.Sb.h1W h256 hi4
  refine go 18 ?_
  refine a0D (e1Y Tst.o rfl rfl rfl (by omega)) ?_
  refine go 4 ?_
  rw[o2N (data:=data) (i:=i) (by omega) (by omega)]
  refine cg 2 (y0M (Go.Sb.part data i) (by omega)) ?_
  refine go 3 ?_
  refine a0P rfl (fun hb63=> ?_) (fun hb63=> ?_)
  ·have hnz:a0R (Go.Sb.part data i)=false:=by simpa using hb63
   have hL40:(hdL (hdP data ps)).length=40:=w0R (i1O (by omega) hpc)
   refine fx (.r 0 7 (.soft 8 (.soft 11 (.soft 14 (.float 9 (.hard 7 (.soft 12 (.res (.hard 10 (.hard 13 (.soft 15 (.hard 16 .done)))))))))))) [stC a s.bits] ?_
   refine go 10 ?_
   refine s0Q (e0:= [(72,_)]) rfl gSu (fun _ _ _=>rfl) Tsl.o Zr.o rfl rfl rfl (by simp[l0Y,q0Y,Value.cells]<;>rfl) rfl ?_
   refine c0F rfl (fun hok EE FF=> ?_)
   refine ns ?_
   refine a0X rfl Hb.o rfl (j2D W a u (Go.Sb.part data i) s.bits (by omega) hub (by rw[he]at hnb;exact o2L hi4 hnz hnb)) gSp (fun x t ho=> ?_) (fun e t ho=>by refine pn ?_;exact kx ((by rw[he];exact o2K hi4 hnz ho)))
   refine ns ?_
   refine go 1 ?_
   refine fn (E:=EE) (F:=FF) (hok.put rfl) ?_
   refine go 1 ?_
   refine n0A (fun b73=> ?_)
   dsimp only
   refine c0F rfl (fun hok EE FF=> ?_)
   refine ns ?_
   refine cg 0 (s0I b73 1 (bs (Go.Sb.part data i)) (by rw[b0F,hpt];simp[maxLen])) ?_
   refine go 1 ?_
   refine fn (E:=EE) (F:=FF) (hok.put rfl) ?_
   refine c0F rfl (fun hok EE FF=> ?_)
   refine ns ?_
   refine d0P Sz.o rfl rfl rfl (by rw[Nat.blt_eq];(try rw[List.length_set]);rw[hL40];omega) rfl ?_
   refine go 1 ?_
   refine fn (E:=EE) (F:=FF) hok ?_
   refine go 1 ?_
   refine c0F rfl (fun hok EE FF=> ?_)
   refine ns ?_
   refine d0P Sz.o rfl rfl rfl (by rw[Nat.blt_eq];(try rw[List.length_set]);rw[hL40];omega) rfl ?_
   refine go 1 ?_
   refine fn (E:=EE) (F:=FF) hok ?_
   refine go 1 ?_
   first|rw[a2L hpl hi4 (by omega) (by omega)]|rw[List.set_comm _ _ (by omega),a2L hpl hi4 (by omega) (by omega)]
   refine go 5 ?_
   exact rd idh (⟨(i+1,t,ps++ [(x,f0V (Go.Sb.part data i))]),hi4,by simp[hpl],by intro p hp;rcases List.mem_append.1 hp with hp|hp;(· exact hpc p hp);(· rw[List.mem_singleton.1 hp];exact x0R _),(by have:=s0K (Go.Sb.part data i) u;rw[ho]at this;exact this.trans hub),he.trans (t2P hi4 hnz ho)⟩)
  ·have hnz:a0R (Go.Sb.part data i)=true:=by simpa using hb63
   have hps:hdP data ps=hdP data (ps++ [(0,0)]):=by unfold hdP;rw[j2E (by omega)]
   rw[hps]
   refine go 6 ?_
   exact rd idh (⟨(i+1,u,ps++ [(0,0)]),hi4,by simp[hpl],by intro p hp;rcases List.mem_append.1 hp with hp|hp;(· exact hpc p hp);(· rw[List.mem_singleton.1 hp];decide),hub,he.trans (j2F hi4 hnz)⟩)
 ·obtain rfl:i=4:=by have:=of_decide_eq_false hb52;omega
  have hln:=i1O (data:=data) (by omega) hpc
  have hsz:(hdL (hdP data ps)).toArray.size=40:=by rw[List.size_toArray,w0R hln]
  rw[o2M hpl]at he
  refine go 3 ?_
  refine mx (.r 0 5 (.hard 5 (.hard 6 (.soft 7 .done)))) [stC a s.bits,pts b8 (.cells (hdL (hdP data ps)).toArray 230 (0,0))] ?_
  refine go 4 ?_
  refine c0V rfl (a0L Ag.o rfl (by rw[hsz];omega) (a0G hsz)) ?_
  refine cg 1 (u1E (hdP data ps) hln) ?_
  refine go 3 ?_
  refine a0X rfl Hb.o rfl (j2D W a u (h0F (hdP data ps)) s.bits (by rw[t2Q hln];omega) hub (by rw[he]at hnb;exact c0I hnb)) gSp (fun x t ho=> ?_) (fun e t ho=>by refine pn ?_;exact kx ((by rw[he];exact a0I ho)))
  refine ns ?_
  refine go 6 ?_
  have htb:t.bits=s.bits:=by have:=s0K (h0F (hdP data ps)) u;rw[ho]at this;exact this.trans hub
  rw[a0A ho]at he
  have hlog:=u1Q (show(e0X (key t.bits (Sha.sum data)) x t).1≠ .big by rw[he]at hnb;exact c0I hnb)
  rw[a0A (m:=fun s=>e0X (key s.bits (Sha.sum data)) x s) (show _=_ from x1U _ _ hlog),htb]at he
  refine e0J gFd fun by_ gv gc o hg hok=> ?_
  simp only[d0M,c0Y,List.cons_append,List.nil_append]
  refine mx (.r 0 16 (.soft 17 (.hard 16 (.hard 18 .done)))) [stC a s.bits,pts a.heap (.cells #[ptr a.disk,ptr a.log,ptr a.gr,.map (some a.refs),.map (some by_),gv,.int .i64 t.keep] 92 (0,0)),pts b5 (.cells ((Sha.sum data).map a0Q).toArray 44 (0,0))] ?_
  refine go 11 ?_
  refine c0V rfl (a0L Ag.o rfl (by rw[hs2];omega) (a0G hs2)) ?_
  refine cg 6 (v0W (Sha.sum data) s.bits hD hbits) ?_
  refine ce 3 (x1G a by_ o t.log t.depth t.index (c0W s.bits (Sha.sum data)) x hlog hok.2.2.2 (by rw[i0J,hD])) ?_
  rintro e _
  refine ns ?_
  refine go 10 ?_
  refine b0V (d0A (s:= {t with log:=bk t.depth t.log (.index (key s.bits (Sha.sum data)) (a0E (key s.bits (Sha.sum data)) t.index)),index:=b0T (key s.bits (Sha.sum data)) x t.index}) hg (by exact⟨hok.1,hok.2.1,hok.2.2.1,fun p hp=>by rcases u1R hp with h|h;(· rw[h];exact(by unfold key;rw[i0J,hD]));(· exact hok.2.2.2 p h)⟩) gSp) (p0I he idh rfl rfl gSp)
end
theorem p1R (W:World) (hW:h0W W) (a:Ad) (s:St) (data:B) (hl:data.length≤1000000) (hbits:s.bits≤256) (hnb:(i0Q data s).1≠ .big):a0F prog 164 #[ptr a.st,b0B data] (RS W a s) (Ran fT (RS W a) a0J (i0Q data s)):=by
 by_cases h:data.length≠256∨a0R data=true
 ·exact e2D W a s data hl h
 ·have h1:data.length=256:=Classical.byContradiction fun e=>h (.inl e)
  have h2:a0R data=false:=by cases e:a0R data with
   |false=>rfl
   |true=>exact(h (.inr e)).elim
  cases hm:a0E (key s.bits (Sha.sum data)) s.index with
  |some a0=>exact e2E W hW a s data h1 h2 hbits a0 hm hnb
  |none=>exact o2O W hW a s data h1 h2 hbits hm hnb
theorem n1H (at_:Int):PB (h0P at_):=fun s=>by unfold h0P;split<;>rfl
theorem a2M {α:Type} (o:Out α):PB (t0P o):=fun _=>rfl
theorem f1X {α:Type} (e:Int):PB (n0Q e:M α):=fun _=>rfl
theorem l0D {α:Type} {p:Prop} [Decidable p] {m n:M α} (h:PB m) (h':PB n):PB (if p then m else n):=by split<;>assumption
theorem a1A {α:Type} {f:α→M Unit} (h: ∀x,PB (f x)): ∀l,PB (i0D f l)
 | []=>d0C _
 |x::l=>b0P (h x) fun _=>a1A h l
theorem i1P (a:Int):PB (g0W a):=b0P (n1H a) fun _=>a2M _
theorem i1Q (k:Int):PB (k0E k):=fun s=>by
 unfold k0E
 split
 ·rfl
 ·exact b1Y k _ s
theorem u1T (k:B):PB (g0Z k):=s0J _ (fun s=> {s with index:=b0C k s.index}) fun _=>rfl
theorem o2P (k:Int):PB (s0V k):=l0D (d0C _) (i1Q k)
theorem e2F (k:Int):PB (j0A k):=l0D (b0P (t0W k) fun _=>d0C _) (d0C _)
theorem c1B (k:Int):PB (g0D k):=l0D (d0C _) (b0P (i1P k) fun x=>b0P (t0W k) fun b=>l0D (b0P (a1A e2F _) fun _=>l1E (m:=fun s=>g0Z (key s.bits x.sum)) fun _=>u1T _) (d0C _))
theorem p1S (x:Hd): ∀n,PB (f0N x n)
 |0=>d0C _
 |n+1=>by
  unfold f0N
  exact b0P (l0D (b0P (n1H _) fun _=>l0D (f1X _) (d0C _)) (d0C _)) fun _=>b0P (p1S x n) fun _=>d0C _
theorem a2N (a:Int):PB (k0R a):=l0D (d0C _) (b0P (i1P a) fun x=>p1S x 4)
theorem t2R (a:Int):PB (r0J a):=l0D (d0C _) (b0P (i1P a) fun x=>d0C _)
theorem n1I (data:B):PB (i0Q data):=by
 unfold i0Q
 refine l0D (f1X _) (l0D (d0C _) fun s=> ?_)
 show(match a0E (key s.bits (Sha.sum data)) s.index with
  |some a=>a0B (k0R a) (fun was=>if was≠data then n0Q 9 else a0B (k0E a) fun _=>ret a) s
  |none=>a0B (m0X data 4) (fun ps:List (Int×Nat)=>a0B (e0M (h0F {at_:=ps.map Prod.fst,sums:=ps.map Prod.snd,sum:=Sha.sum data})) fun a=>a0B (fun s=>e0X (key s.bits (Sha.sum data)) a s) fun _=>ret a) s).2.bits=s.bits
 split
 ·exact b0P (a2N _) (fun _=>l0D (f1X _) (b0P (i1Q _) fun _=>d0C _)) s
 ·exact b0P (i1N data 4) (fun r=>b0P (s0K _) fun a=>b0P (l1E (m:=fun s=>e0X (key s.bits (Sha.sum data)) a) fun _=>g1T _ _) fun _=>d0C _) s
theorem w0S (a:Int) (l:Nat):PB (Go.Sb.load a l):=l0D (d0C _) (b0P (n1H a) fun _=>a2M _)
theorem i1R (a:Int) (l:Nat):PB (g0N a l):=l0D (d0C _) (l0D (o2P a) (i1Q a))
theorem x0W: ∀l a,PB (g0E l a)
 |0,a=>c1B a
 |l+1,a=>by
  unfold g0E
  exact l0D (d0C _) (b0P (w0S a l) fun n=>b0P (t0W a) fun b=>l0D (a1A (x0W l) _) (d0C _))
theorem i1S (l:Nat): ∀k,PB (g0O l k)
 | []=>d0C _
 |k::r=>by
  unfold g0O
  refine b0P ?_ fun s=>b0P (i1S l r) fun _=>d0C _
  cases l with
  |zero=>exact t2R k
  |succ n=>exact b0P (w0S k n) fun _=>d0C _
theorem n1J: ∀l root at_ to_,PB (i0F l root at_ to_)
 |0,root,at_,to_=>by
  unfold i0F
  exact b0P (w0S _ _) fun n=>b0P (a1A (fun k=>i1R k 0) _) fun _=>b0P (x0W _ _) fun _=>b0P (b0P (c1B _) fun _=>d0C _) fun r=>l0D (d0C _) (b0P (i1S _ _) fun _=>s0K _)
 |l+1,root,at_,to_=>by
  unfold i0F
  exact b0P (w0S _ _) fun n=>b0P (a1A (fun k=>i1R k (l+1)) _) fun _=>b0P (x0W _ _) fun _=>b0P (n1J l _ _ _) fun r=>l0D (d0C _) (b0P (i1S _ _) fun _=>s0K _)
theorem n1K: ∀l root at_,PB (k0S l root at_)
 |0,root,at_=>by unfold k0S;exact b0P (w0S _ _) fun _=>d0C _
 |l+1,root,at_=>by unfold k0S;exact b0P (w0S _ _) fun _=>n1K l _ _
theorem n1L (root:Int) (at_:Nat) (to_:Int):PB (l0P root at_ to_):=b0P (n1K _ _ _) fun x=>l0D (b0P (c1B _) fun _=>d0C _) (n1J _ _ _ _)
theorem e1K {l:Nat} {b:B} {x:Nd} (h:f0Q l b= .ok x):o0C x:=by
 unfold f0Q at h
 cases ho:h0G b with
 |err e=>rw[ho]at h;cases h
 |big=>rw[ho]at h;cases h
 |ok t=>
  rw[ho]at h
  simp only at h
  have ht:t=b.take 60∧b.length=64:=by
   unfold h0G at ho
   split at ho
   ·cases ho
   ·split at ho
    ·cases ho
    ·split at ho
     ·cases ho
     ·split at ho
      ·cases ho
      ·rename_i h4;cases ho;exact⟨rfl,by omega⟩
  split at h
  ·cases h
  ·split at h
   ·cases h
   ·split at h
    ·cases h
    ·cases h
     exact⟨by simp[k0V],by simp;rw[ht.1];simp;omega⟩
theorem h0U {at_:Int} {l:Nat} {s t:St} {x:Nd} (h:Go.Sb.load at_ l s=(.ok x,t)):t=s∧o0C x:=by
 unfold Go.Sb.load at h
 split at h
 ·cases h;exact⟨rfl,⟨rfl,by simp[a0K]⟩⟩
 ·cases hg:h0P at_ s with
  |mk o u=>
   cases o with
   |ok b=>
    rw[a0A hg]at h
    unfold t0P at h
    simp only[Prod.mk.injEq]at h
    exact⟨h.2.symm.trans (w0Q hg).1,e1K h.1⟩
   |err e=>rw[a0I hg]at h;cases h
   |big=>unfold a0B at h;rw[hg]at h;cases h
theorem p0R {l:Int} {x:Nd} (h:o0C x):(ndL l x).length=41:=by unfold ndL;simp[h.n,h.sum]
theorem f1Y (l:Int) (x:Nd): ∀v∈(ndL l x).toArray.toList,v.oneCell'=true:=by
 intro v hv
 simp only[ndL,List.mem_append,List.mem_map,List.mem_singleton]at hv
 rcases hv with rfl| ⟨_,_,rfl⟩| ⟨_,_,rfl⟩<;>rfl
theorem t2S:o0C {kids:=e0F,sum:=a0K 32} :=⟨rfl,by simp[a0K]⟩
set_option maxRecDepth 4000 in
theorem q0N (W:World) (a:Ad) (s:St) (at_:Int) (l:Nat):a0F prog 108 #[ptr a.maps,.int .i64 at_,.int .i64 l] (RS W a s) (Ran fT (RS W a) (ndV l) (Go.Sb.load at_ l s)):=by
 by_cases h0:at_=0
 ·subst h0
  rw[show Go.Sb.load 0 l s=(.ok {kids:=e0F,sum:=a0K 32},s) by unfold Go.Sb.load;rw[if_pos rfl];rfl]
  have hsz:(ndL l {kids:=e0F,sum:=a0K 32}).toArray.size=41:=by rw[List.size_toArray,p0R t2S]
  refine en func108 ntmps108 fun R w0=> ?_
  refine go 2 ?_
  refine al fun b6=> ?_
  refine go 13 ?_
  refine a0D (s0B (cs:=ndL l {kids:=e0F,sum:=a0K 32}) Pl.o rfl ((u1S (i:=0) (off:=0) (size:=1) (vs:= [a0J l]) rfl rfl (by exact Nat.le_add_left 1 40)).trans (by rfl))) ?_
  refine a0M Sz.o rfl rfl hsz (f1Y _ _) (by rw[hsz];exact Nat.le_refl 41) (a0N (by rw[hsz];rfl)) ?_
  refine go 2 ?_
  exact j0R rfl idh (RV.agg Ag.o rfl (by rw[hsz];omega) (a0G hsz) RV.nil) rfl gSp
 ·have e0:Go.Sb.load at_ l s=a0B (h0P at_) (fun b=>t0P (f0Q l b)) s:=by unfold Go.Sb.load;rw[if_neg h0]
  refine en func108 ntmps108 fun R w0=> ?_
  refine o0E (p:=l0R s.d) gFd fun hdk=> ?_
  refine go 2 ?_
  refine al fun b6=> ?_
  refine go 9 ?_
  refine b0R rfl (by simpa using h0) ?_
  refine go 9 ?_
  refine a0X rfl Hb.o rfl (e1B W a s at_) gSp (fun b t ho=> ?_) (fun e t ho=>by refine pn ?_;exact kx ((by rw[e0];exact a0I ho)))
  refine ns ?_
  obtain⟨rfl,hrd⟩:=w0Q ho
  have hbl:=p1M hdk hrd
  have ho1:=ho
  refine go 1 ?_
  refine a0X rfl Hb.o rfl (u1I l b (by omega)) gSp (fun x u ho=> ?_) (fun e t ho=>by refine pn ?_;exact kx ((by rw[e0,a0A ho1];unfold t0P;rw[show f0Q l b= .err e from congrArg Prod.fst ho])))
  refine ns ?_
  have hx:f0Q l b= .ok x:=congrArg Prod.fst ho
  have hln:=e1K hx
  have hsz:(ndL l x).toArray.size=41:=by rw[List.size_toArray,p0R hln]
  have hr:Go.Sb.load at_ l t=(.ok x,t):=by rw[e0,a0A ho1];unfold t0P;rw[hx]
  refine a0M Sz.o rfl rfl hsz (f1Y _ _) (by rw[hsz];exact Nat.le_refl 41) (a0N (by rw[hsz];rfl)) ?_
  refine go 2 ?_
  exact j0R hr idh (RV.agg Ag.o rfl (by rw[hsz];omega) (a0G hsz) RV.nil) rfl gSp
theorem l1F (W:World) (a:Ad) (s:St) (at_:Int) (l:Nat) (hnb:(g0N at_ l s).1≠ .big):a0F prog 183 #[ptr a.maps,.int .i64 at_,.int .i64 l] (RS W a s) (Ran fT (RS W a) k0I (g0N at_ l s)):=by
 by_cases h0:at_=0
 ·rw[show g0N at_ l s=(.ok (),s) by unfold g0N;rw[if_pos h0];rfl]
  refine en func183 ntmps183 fun R w0=> ?_
  refine go 8 ?_
  refine d0R rfl (by simpa using h0) ?_
  refine go 1 ?_
  exact fR rfl
 ·by_cases hl:l=0
  ·subst hl
   have hr:g0N at_ 0 s=s0V at_ s:=by unfold g0N;rw[if_neg h0,if_pos rfl]
   rw[hr]at hnb ⊢
   refine en func183 ntmps183 fun R w0=> ?_
   refine go 8 ?_
   refine b0R rfl (by simpa using h0) ?_
   refine go 14 ?_
   refine a0X rfl Hb.o rfl (e2A W a s at_ hnb) gSp (fun u t ho=> ?_) (fun e t ho=>by refine pn ?_;exact kx (ho))
   refine ns ?_
   refine go 1 ?_
   exact fR ho
  ·have hr:g0N at_ l s=k0E at_ s:=by unfold g0N;rw[if_neg h0,if_neg hl]
   rw[hr]at hnb ⊢
   refine en func183 ntmps183 fun R w0=> ?_
   refine go 8 ?_
   refine b0R rfl (by simpa using h0) ?_
   refine go 7 ?_
   refine b0R rfl (by simpa using hl) ?_
   refine go 6 ?_
   refine a0X rfl Hb.o rfl (b1R W a s at_ hnb) gSp (fun u t ho=> ?_) (fun e t ho=>by refine pn ?_;exact kx (ho))
   refine ns ?_
   refine go 1 ?_
   exact fR ho
section
section
variable {α:Type} {f:α→M Unit} {x:α} {l:List α} {s t:St} {e:Int}
theorem a2O (h:f x s=(.ok (),t)):i0D f (x::l) s=i0D f l t:=by
 show a0B (f x) (fun _=>i0D f l) s=_
 rw[a0A h]
theorem u1U (h:f x s=(.err e,t)):i0D f (x::l) s=(.err e,t):=by unfold i0D;rw[a0I h]
theorem u1V (h:(i0D f (x::l) s).1≠ .big):(f x s).1≠ .big:=by unfold i0D at h;exact c0I h
end
abbrev i1T (W:World) (a:Ad) (l:Nat):Prop:= ∀(s:St) (at_:Int),s.bits≤256→(g0E l at_ s).1≠ .big→a0F prog 207 #[ptr a.maps,.int .i64 at_,.int .i64 l] (RS W a s) (Ran fT (RS W a) k0I (g0E l at_ s))
abbrev i1U (W:World) (a:Ad) (l:Nat):Prop:= ∀(s:St) (at_:Int),s.bits≤256→(g0E (l+1) at_ s).1≠ .big→a0F prog 170 #[ptr a.maps,.int .i64 at_,.int .i64 l] (RS W a s) (Ran fT (RS W a) k0I (g0E (l+1) at_ s))
theorem e2G (W:World) (a:Ad):i1T W a 0:=by
 intro s at_ hbits hnb
 have hr:g0E 0 at_ s=g0D at_ s:=rfl
 rw[hr]at hnb ⊢
 refine en func207 ntmps207 fun R w0=> ?_
 refine go 15 ?_
 refine a0X rfl Hb.o rfl (b1Z W a s at_ hbits hnb) gSp (fun u t ho=> ?_) (fun e t ho=>by refine pn ?_;exact kx (ho))
 refine ns ?_
 refine go 2 ?_
 exact rR idh ho
theorem e2H (W:World) (a:Ad) (l:Nat) (hl:l<100) (hd:i1U W a l):i1T W a (l+1):=by
 intro s at_ hbits hnb
 refine en func207 ntmps207 fun R w0=> ?_
 refine go 15 ?_
 rw[show((l+1:Nat):Int)-1=(l:Int) by omega]
 refine a0X rfl Hb.o rfl (hd s at_ hbits hnb) gSp (fun u t ho=> ?_) (fun e t ho=>by refine pn ?_;exact kx (ho))
 refine ns ?_
 refine go 1 ?_
 exact fR ho
set_option maxRecDepth 4000 in
theorem l1G (W:World) (a:Ad) (l:Nat) (hd:i1T W a l):i1U W a l:=by
 intro s at_ hbits hnb
 by_cases h0:at_=0
 ·subst h0
  rw[show g0E (l+1) 0 s=(.ok (),s) by unfold g0E;rw[if_pos rfl];rfl]
  refine en func170 ntmps170 fun R w0=> ?_
  refine go 8 ?_
  exact rR idh rfl
 ·have e0:g0E (l+1) at_ s=a0B (Go.Sb.load at_ l) (fun n=>a0B (e0B at_) fun b=>if b then i0D (g0E l) n.kids else ret ()) s:=by
   conv=>lhs;unfold g0E
   rw[if_neg h0]
  refine en func170 ntmps170 fun R w0=> ?_
  refine go 7 ?_
  refine b0R rfl (by simpa using h0) ?_
  refine go 7 ?_
  refine a0X rfl Hb.o rfl (q0N W a s at_ l) gSp (fun x t ho=> ?_) (fun e t ho=>by refine pn ?_;exact kx ((by rw[e0];exact a0I ho)))
  refine ns ?_
  obtain⟨hts,hln⟩:=h0U ho
  rw[hts]at ho ⊢
  rw[a0A ho]at e0
  have hsz:(ndL l x).toArray.size=41:=by rw[List.size_toArray,p0R hln]
  have c1:(x.kids.map a0J).length=8:=by simp[hln.n]
  have hnb1:(e0B at_ s).1≠ .big:=by rw[e0]at hnb;exact c0I hnb
  refine al fun b6=> ?_
  refine a0M Sz.o rfl rfl hsz (f1Y _ _) (by rw[hsz];exact Nat.le_refl 41) (a0N (by rw[hsz];rfl)) ?_
  refine go 10 ?_
  refine a0X rfl Hb.o rfl (b1T W a s at_ hnb1) gSp (fun b t ho=> ?_) (fun e t ho=>by refine pn ?_;exact kx ((by rw[e0];exact a0I ho)))
  refine ns ?_
  have ho20:=ho
  rw[a0A ho20]at e0
  refine go 3 ?_
  refine a0P rfl (fun hb21=> ?_) (fun hb21=> ?_)
  ·have hbf:b=false:=by simpa using hb21
   exact rR idh (by rw[e0,hbf];rfl)
  ·have hbt:b=true:=by simpa using hb21
   have he0:g0E (l+1) at_ s=i0D (g0E l) (x.kids.drop 0) t:=by rw[e0,hbt];rfl
   refine go 5 ?_
   refine a0D (a0L Ag.o rfl (by show 0+1+8≤(ndL l x).toArray.size;rw[hsz];omega) (d0X (a:= [a0J l]) rfl c1)) ?_
   refine go 4 ?_
   refine a0V (X:= {y:Nat×St // y.1≤8∧y.2.bits=s.bits∧g0E (l+1) at_ s=i0D (g0E l) (x.kids.drop y.1) y.2}) (fun y=> [(0,ptr a.maps),(2,.int .i64 l),(23,.agg (x.kids.map a0J).toArray),(24,.int .i64 y.1.1)]) (fun y=>RS W a y.1.2++ [R]) (fun y=>8-y.1.1) ⟨(0,t),by omega,by have:=t0W at_ s;rw[ho20]at this;exact this,he0⟩ gSu gSp ?_
   rintro⟨⟨i,u⟩,hi,hub,he⟩ m0 hm0
   try simp only at hm0
   try dsimp only
   simp only at hi hub he
   refine ns ?_
   refine go 6 ?_
   refine a0P rfl (fun hb25=> ?_) (fun hb25=> ?_)
   ·have hi8:i<8:=by have:=of_decide_eq_true hb25;omega
    have hil:i<x.kids.length:=by rw[hln.n];exact hi8
    rw[List.drop_eq_getElem_cons hil]at he
    refine go 6 ?_
    refine a0D (p0V Tar.o Sc.o rfl rfl (by omega) (j0I a0J x.kids i _ hil (by omega))) ?_
    refine go 7 ?_
    refine a0X rfl Hb.o rfl (hd u x.kids[i] (by omega) (by rw[he]at hnb;exact u1V hnb)) gSp (fun b' t' ho=> ?_) (fun e t ho=>by refine pn ?_;exact kx ((by rw[he];exact u1U ho)))
    refine ns ?_
    refine go 6 ?_
    exact rd idh (⟨(i+1,t'),hi8,(by have:=x0W l x.kids[i] u;rw[ho]at this;exact this.trans hub),he.trans (a2O ho)⟩)
   ·obtain rfl:i=8:=by have:=of_decide_eq_false hb25;omega
    rw[List.drop_eq_nil_of_le (by rw[hln.n];exact Nat.le_refl _)]at he
    refine go 1 ?_
    exact fR he
theorem e1L (W:World) (a:Ad): ∀l,l<100→i1U W a l
 |0,_=>l1G W a 0 (e2G W a)
 |l+1,h=>l1G W a (l+1) (e2H W a l (by omega) (e1L W a l (by omega)))
end
section
theorem a2P {l:Int} {x:Nd} (h:o0C x):(ndL l x).toArray.extract 9 (9+32)=(x.sum.map a0Q).toArray:=by
 rw[show ndL l x=([a0J l]++x.kids.map a0J)++(x.sum.map a0Q++ []) by simp[ndL]]
 exact d0X (by rw[List.length_append,List.length_map,h.n];rfl) (by rw[List.length_map,h.sum])
theorem u1W {at_:Int} {s t:St} {v:B} (h:r0J at_ s=(.ok v,t)):t=s∧v.length=32:=by
 unfold r0J at h
 split at h
 ·cases h;exact⟨rfl,by simp[a0K]⟩
 ·cases hg:g0W at_ s with
  |mk o u=>
   cases o with
   |ok x=>rw[a0A hg]at h;cases h;exact⟨(q0M hg).1,(q0M hg).2.sum⟩
   |err e=>rw[a0I hg]at h;cases h
   |big=>unfold a0B at h;rw[hg]at h;cases h
def c1C (l:Nat) (k:Int):M B:=match l with|0=>r0J k|n+1=>a0B (Go.Sb.load k n) fun x=>ret x.sum
theorem p1T {l:Nat} {k:Int} {s t:St} {v:B} (h:c1C l k s=(.ok v,t)):t=s∧v.length=32:=by
 unfold c1C at h
 cases l with
 |zero=>exact u1W h
 |succ n=>
  simp only at h
  cases hg:Go.Sb.load k n s with
  |mk o u=>
   cases o with
   |ok x=>rw[a0A hg]at h;cases h;exact⟨(h0U hg).1,(h0U hg).2.sum⟩
   |err e=>rw[a0I hg]at h;cases h
   |big=>unfold a0B at h;rw[hg]at h;cases h
theorem c1D (l:Nat) (k:Int) (r:List Int):g0O l (k::r)=a0B (c1C l k) fun s=>a0B (g0O l r) fun r=>ret (s::r):=rfl
def c1E (l:Nat) (r:List Int) (acc:List B) (s:St):Out (List B)×St:=a0B (g0O l r) (fun r=>ret (acc++r)) s
section
variable {l:Nat} {k:Int} {r:List Int} {acc:List B} {s t:St} {v:B} {e:Int}
theorem a2Q (h:c1C l k s=(.ok v,t)):c1E l (k::r) acc s=c1E l r (acc++ [v]) t:=by
 unfold c1E
 rw[c1D]
 unfold a0B
 rw[h]
 simp only
 cases g0O l r t with
 |mk o u=>cases o<;>simp[ret]
theorem u1X (h:c1C l k s=(.err e,t)):c1E l (k::r) acc s=(.err e,t):=by
 unfold c1E
 rw[c1D]
 unfold a0B
 rw[h]
end
def t0X (acc:List B):List B:=acc++List.replicate (8-acc.length) (a0K 32)
theorem i1V {acc:List B} (h:acc.length≤8):(t0X acc).length=8:=by unfold t0X;simp;omega
theorem n1M {acc:List B} (h: ∀x∈acc,x.length=32): ∀x∈t0X acc,x.length=32:=by
 intro x hx
 unfold t0X at hx
 rcases List.mem_append.1 hx with hx|hx
 ·exact h x hx
 ·rw[List.eq_of_mem_replicate hx];simp[a0K]
theorem o2Q {acc:List B} {v:B} (h:acc.length<8):(t0X acc).set acc.length v=t0X (acc++ [v]):=by
 unfold t0X
 obtain⟨m,hm⟩: ∃m,8-acc.length=m+1:=⟨8-acc.length-1,by omega⟩
 rw[List.set_append_right _ _ (Nat.le_refl _),Nat.sub_self,hm,List.replicate_succ,List.set_cons_zero,List.length_append,List.append_assoc]
 simp only[List.length_cons,List.length_nil,List.singleton_append]
 rw[show 8- (acc.length+(0+1))=m by omega]
theorem u1Y {v:B} (hv:v.length=32): ∀ {X:List B} {i:Nat},(∀x∈X,x.length=32)→i<X.length→
 (X.flatMap (·.map a0Q)).take (i*32)++(v.map a0Q++(X.flatMap (·.map a0Q)).drop (i*32+32))=(X.set i v).flatMap (·.map a0Q)
 | [],i,_,h=>by simp at h
 |x::X,0,hx,_=>by
  have h0:=hx x (List.mem_cons_self ..)
  rw[List.set_cons_zero,List.flatMap_cons,List.flatMap_cons,Nat.zero_mul,List.take_zero,List.nil_append,Nat.zero_add,List.drop_left' (by rw[List.length_map,h0])]
 |x::X,i+1,hx,h=>by
  have h0:(x.map a0Q).length=32:=by rw[List.length_map];exact hx x (List.mem_cons_self ..)
  rw[List.set_cons_succ,List.flatMap_cons,List.flatMap_cons,←u1Y hv (X:=X) (i:=i) (fun y hy=>hx y (List.mem_cons_of_mem _ hy)) (by simpa using h)]
  rw[show(i+1)*32=(x.map a0Q).length+i*32 by omega,List.take_length_add_append (i*32),Nat.add_assoc,List.drop_length_add_append]
  rw[List.append_assoc]
theorem g1U {acc:List B} {v:B} {o:Nat} (hv:v.length=32) (h32: ∀x∈acc,x.length=32) (h:acc.length<8) (ho:o=acc.length*32):
 i0X ((t0X acc).flatMap (·.map a0Q)).toArray o (v.map a0Q).toArray=((t0X (acc++ [v])).flatMap (·.map a0Q)).toArray:=by
 subst ho
 have hl:=i1L (n1M h32)
 rw[i1V (by omega)]at hl
 rw[←o2Q h,←u1Y hv (n1M h32) (by rw[i1V (by omega)];exact h)]
 unfold i0X
 apply Array.ext'
 simp only[Array.toList_append,Array.toList_extract,List.extract_eq_take_drop,List.drop_zero,Nat.sub_zero,List.size_toArray,List.length_map,hv,List.append_assoc]
 rw[List.take_of_length_le (l:=List.drop (acc.length*32+32) _) (by rw[List.length_drop];exact Nat.le_refl _)]
set_option maxRecDepth 8000 in
theorem e2I (W:World) (a:Ad) (s:St) (l:Nat) (hl:l<100) (n:Nd) (hn:o0C n):a0F prog 244 #[ptr a.maps,ndV l n] (RS W a s) (Ran fT (RS W a) d2Z (g0O l n.kids s)):=by
 have e0:g0O l n.kids s=c1E l (n.kids.drop 0) [] s:=by
  unfold c1E a0B
  simp only[List.drop_zero]
  cases g0O l n.kids s with
  |mk o u=>cases o<;>rfl
 have hsz:(ndL l n).toArray.size=41:=by rw[List.size_toArray,p0R hn]
 have c1:(n.kids.map a0J).length=8:=by simp[hn.n]
 unfold ndV
 refine en func244 ntmps244 fun R w0=> ?_
 refine go 2 ?_
 refine bx fun b3=> ?_
 refine al fun b4=> ?_
 refine go 4 ?_
 refine al fun b5=> ?_
 refine go 6 ?_
 refine a0D (a0L Ag.o rfl (by show 0+1+8≤(ndL l n).toArray.size;rw[hsz];omega) (d0X (a:= [a0J l]) rfl c1)) ?_
 refine go 4 ?_
 refine a0V (X:= {y:Nat×List B // y.1≤8∧y.2.length=y.1∧(∀x∈y.2,x.length=32)∧g0O l n.kids s=c1E l (n.kids.drop y.1) y.2 s}) (fun y=> [(0,ptr a.maps),(3,ptr b3),(4,ptr b4),(5,ptr b5),(9,.agg (n.kids.map a0J).toArray),(10,.int .i64 y.1.1)]) (fun y=>RS W a s++ [pts b3 (.cells (ndL l n).toArray 182 (0,0)),pts b5 (.cells ((t0X y.1.2).flatMap (·.map a0Q)).toArray 301 (0,0)),pts b4 (.cells (List.replicate 256 (Value.int .u8 0)).toArray 301 (0,0)),R]) (fun y=>8-y.1.1) ⟨(0,[]),by omega,rfl,by simp,e0⟩ gSu gSp ?_
 rintro⟨⟨i,acc⟩,hi,hal,ha32,he⟩ m0 hm0
 try simp only at hm0
 try dsimp only
 simp only at hi hal ha32 he
 refine ns ?_
 have hps:((t0X acc).flatMap (·.map a0Q)).toArray.size=256:=by rw[List.size_toArray,i1L (n1M ha32),i1V (by omega)]
 refine go 6 ?_
 refine a0P rfl (fun hb11=> ?_) (fun hb11=> ?_)
 ·have hi8:i<8:=by have:=of_decide_eq_true hb11;omega
  have hil:i<n.kids.length:=by rw[hn.n];exact hi8
  rw[List.drop_eq_getElem_cons hil]at he
  refine go 7 ?_
  refine a0D (p0V Tar.o Sc.o rfl rfl (by omega) (j0I a0J n.kids i _ hil (by omega))) ?_
  refine go 11 ?_
  refine a0P rfl (fun hb16=> ?_) (fun hb16=> ?_)
  ·obtain rfl:l=0:=by have h:=hb16;simp only[beq_iff_eq]at h;omega
   refine go 7 ?_
   refine a0X rfl Hb.o rfl (i2X W a s n.kids[i]) gSp (fun v t ho=> ?_) (fun e t ho=>by refine pn ?_;exact kx ((by rw[he];exact u1X ho)))
   refine ns ?_
   obtain⟨hts,hvl⟩:=u1W ho
   rw[hts]at ho ⊢
   have hvs:(v.map a0Q).toArray.size=32:=by rw[List.size_toArray,List.length_map,hvl]
   refine go 1 ?_
   refine a0M Sz.o rfl rfl hvs (fun x hx=>by simp at hx;obtain⟨_,_,rfl⟩:=hx;rfl) (by rw[hvs,hps];omega) (g1U hvl ha32 (by omega) (by omega)) ?_
   refine go 6 ?_
   exact rd idh (⟨(i+1,acc++ [v]),hi8,by simp[hal],by intro x hx;rcases List.mem_append.1 hx with hx|hx;(· exact ha32 x hx);(· rw[List.mem_singleton.1 hx];exact hvl),he.trans (a2Q ho)⟩)
  ·obtain⟨m,rfl⟩: ∃m,l=m+1:=⟨l-1,by have h:=hb16;simp only[beq_eq_false_iff_ne]at h;omega⟩
   refine go 7 ?_
   rw[show((m+1:Nat):Int)-1=(m:Int) by omega]
   refine a0X rfl Hb.o rfl (q0N W a s n.kids[i] m) gSp (fun x t ho=> ?_) (fun e t ho=>by refine pn ?_;exact kx ((by rw[he];exact u1X (show a0B (Go.Sb.load n.kids[i] m) (fun x=>ret x.sum) s=_ from a0I ho))))
   refine ns ?_
   obtain⟨hts,hln⟩:=h0U ho
   rw[hts]at ho ⊢
   have hvs:(x.sum.map a0Q).toArray.size=32:=by rw[List.size_toArray,List.length_map,hln.sum]
   have hr1:c1C (m+1) n.kids[i] s=(.ok x.sum,s):=(a0A ho:a0B (Go.Sb.load n.kids[i] m) (fun x=>ret x.sum) s=_)
   refine a0D (o0Q (v:=(x.sum.map a0Q).toArray) F.fa182_2 rfl (a2P hln)) ?_
   refine go 1 ?_
   refine a0M Sz.o rfl rfl hvs (fun x hx=>by simp at hx;obtain⟨_,_,rfl⟩:=hx;rfl) (by rw[hvs,hps];omega) (g1U hln.sum ha32 (by omega) (by omega)) ?_
   refine go 6 ?_
   exact rd idh (⟨(i+1,acc++ [x.sum]),hi8,by simp[hal],by intro y hy;rcases List.mem_append.1 hy with hy|hy;(· exact ha32 y hy);(· rw[List.mem_singleton.1 hy];exact hln.sum),he.trans (a2Q hr1)⟩)
 ·obtain rfl:i=8:=by have:=of_decide_eq_false hb11;omega
  have hpa:t0X acc=acc:=by unfold t0X;rw[hal];simp
  have he1:g0O l n.kids s=(.ok acc,s):=by rw[he,List.drop_eq_nil_of_le (by rw[hn.n];exact Nat.le_refl _)];unfold c1E g0O a0B;simp[ret]
  rw[hpa]at hps ⊢
  refine go 4 ?_
  refine a0D (a0L Ag.o rfl (by show 0+256≤_;rw[hps];omega) (a0G hps)) ?_
  refine a0M Sz.o rfl rfl hps (fun x hx=>by simp at hx;obtain⟨_,_,_,_,rfl⟩:=hx;rfl) (by rw[hps];simp) (a0N (by rw[hps];simp)) ?_
  refine go 2 ?_
  exact j0R he1 idh (RV.agg Ag.o rfl (by show 0+256≤_;rw[hps];omega) (a0G hps) RV.nil) rfl gSp
end
end Go.Proofs.Q

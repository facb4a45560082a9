/- Part of the proof; no statement of its own. -/
import Derived.Test.YtpinhnikemamjaaGreatDoorB08
import Derived.Test.YtpinhnikemamjaaGreatDoorB16
import Derived.Test.YtpinhnikemamjaaGreatDoorB17
import Derived.Test.YtpinhnikemamjaaGreatDoorB18
set_option linter.all false
set_option maxRecDepth 4000
set_option maxHeartbeats 4000000
namespace Go.Proofs.Q
open Go.Sl Go.Sb
section
abbrev RSb (W:World) (a:Ad) (bits:Nat) (s:St):List a0E:= [whole W,dkC a s.d,dkR a s.d,m0P (l0L s.d),stC a bits,mpC a,HL a s]
theorem r1I {W:World} {a:Ad} {bits:Nat} {α:Type} {val:α→Value} {o:Out α×St} {e:Ending} {L:List a0E} (h:o.2.bits=bits):Ran fT (RSb W a bits) val o e L↔Ran fT (RS W a) val o e L:=by
 obtain⟨o,t⟩:=o
 have h:t.bits=bits:=h
 subst h
 cases o<;>exact Iff.rfl
theorem _root_.Go.Sl.a0S.mono_ran {P:Program} {f:FuncId} {args:Array Value} {Pre:List a0E} {Post Post':Ending→List a0E→Prop} (h:a0S P f args Pre Post) (hp: ∀e L,Post e L→Post' e L):a0S P f args Pre Post':=by
 intro w F hs
 refine(h w F hs).mono ?_
 rintro e w' ⟨L',h1,h2⟩
 exact⟨L',hp _ _ h1,h2⟩
theorem f1Z (data:B): ∀n,PB (m0K data n)
 |0=>d0J _
 |n+1=>by
  unfold m0K
  refine b0Y ?_ fun p=>b0Y (f1Z data n) fun r=>d0J _
  split
  ·exact d0J _
  ·exact b0Y (r0R _) fun _=>d0J _
theorem e1W (k:B) (v:Int):PB (f0C k v):=r0Q _ (fun s=> {s with index:=c0F k v s.index}) fun _=>rfl
theorem f2J (W:World) (a:Ad) (s:St) (b:B) (bits:Nat) (hb:b.length≤1000000) (hbits:s.bits=bits) (hnb:(e0S b s).1≠ .big):a0S Tryz.prog 202 #[ptr a.heap,b0H b] (RSb W a bits s) (Ran fT (RSb W a bits) a0V (e0S b s)):=by
 subst hbits
 exact(m1H W a s b hb hnb).mono_ran (fun e L h=>(r1I (r0R b s)).2 h)
def y0A (ps:List (Int×Nat)):List (Int×Nat):=ps++List.replicate (4-ps.length) (0,0)
def hdP (data:B) (ps:List (Int×Nat)):Hd:= {at_:=(y0A ps).map (·.1),sums:=(y0A ps).map (·.2),sum:=Sha.sum data}
theorem f2K {ps:List (Int×Nat)} (h:ps.length<4):y0A (ps++ [(0,0)])=y0A ps:=by
 unfold y0A
 obtain⟨m,hm⟩: ∃m,4-ps.length=m+1:=⟨4-ps.length-1,by omega⟩
 rw[List.length_append,hm,List.replicate_succ,List.append_assoc]
 simp only[List.length_cons,List.length_nil,List.singleton_append]
 rw[show 4- (ps.length+(0+1))=m by omega]
theorem r1J {ps:List (Int×Nat)} (h:ps.length≤4):(y0A ps).length=4:=by unfold y0A;simp;omega
theorem g1A {data:B} {ps:List (Int×Nat)} (h:ps.length≤4) (hc: ∀p∈ps,p.2<4294967296):z0U (hdP data ps):=by
 refine⟨by simp[hdP,r1J h],by simp[hdP,r1J h],fun c hcm=> ?_,q0F data⟩
 simp only[hdP,List.mem_map]at hcm
 obtain⟨p,hp,rfl⟩:=hcm
 unfold y0A at hp
 rcases List.mem_append.1 hp with hp|hp
 ·exact hc p hp
 ·rw[List.eq_of_mem_replicate hp];decide
theorem k2U {data:B} {ps:List (Int×Nat)} (h:ps.length=4):hdP data ps= {at_:=ps.map (·.1),sums:=ps.map (·.2),sum:=Sha.sum data} :=by
 unfold hdP y0A;rw[h];simp
theorem x1N {data:B} {ps:List (Int×Nat)} {i o1 o2:Nat} {x:Int} {c:Nat} (h:ps.length=i) (hi:i<4) (h1:o1=i) (h2:o2=4+i):((hdL (hdP data ps)).set o1 (a0V x)).set o2 (.int .u32 (c:Nat))=hdL (hdP data (ps++ [(x,c)])):=by
 subst h1 h2
 unfold hdL hdP y0A
 match ps,h,hi with
 | [],h,_=>subst h;rfl
 | [p],h,_=>subst h;rfl
 | [p,q],h,_=>subst h;rfl
 | [p,q,r],h,_=>subst h;rfl
 |_::_::_::_::_,h,hi=>simp only[List.length_cons]at h;omega
def r0E (data:B) (i:Nat) (ps:List (Int×Nat)) (s:St):Out Int×St:=a0B (m0K data (4-i)) (fun r=>a0B (e0S (h0B {at_:=(ps++r).map (·.1),sums:=(ps++r).map (·.2),sum:=Sha.sum data})) fun a=>a0B (fun s=>f0C (key s.bits (Sha.sum data)) a s) fun _=>ret a) s
section
variable {data:B} {i:Nat} {ps:List (Int×Nat)} {s t:St}
theorem a1D (h:i<4):r0E data i ps s=a0B (a0B (if b0B (Go.Sb.part data i)then ret (0,0)else a0B (e0S (Go.Sb.part data i)) fun a=>ret (a,f0T (Go.Sb.part data i))) fun p=>a0B (m0K data (4- (i+1))) fun r=>ret (p::r)) (fun r=>a0B (e0S (h0B {at_:=(ps++r).map (·.1),sums:=(ps++r).map (·.2),sum:=Sha.sum data})) fun a=>a0B (fun s=>f0C (key s.bits (Sha.sum data)) a s) fun _=>ret a) s:=by
 unfold r0E
 obtain⟨n,hn⟩: ∃n,4-i=n+1:=⟨4-i-1,by omega⟩
 have hk:4- (n+1)=i:=by omega
 have hk2:4- (i+1)=n:=by omega
 rw[hn,hk2]
 conv=>lhs;unfold m0K
 simp only[hk]
theorem n1C (c:M (Int×Nat)) {p:Int×Nat} (hc:c s=(.ok p,t)):a0B (a0B c fun p=>a0B (m0K data (4- (i+1))) fun r=>ret (p::r)) (fun r=>a0B (e0S (h0B {at_:=(ps++r).map (·.1),sums:=(ps++r).map (·.2),sum:=Sha.sum data})) fun a=>a0B (fun s=>f0C (key s.bits (Sha.sum data)) a s) fun _=>ret a) s=r0E data (i+1) (ps++ [p]) t:=by
 unfold r0E
 simp only[List.append_assoc,List.singleton_append]
 unfold a0B
 rw[hc]
 simp only
 cases m0K data (4- (i+1)) t with
 |mk o u=>cases o<;>rfl
theorem f2L (h:i<4) (hz:b0B (Go.Sb.part data i)=true):r0E data i ps s=r0E data (i+1) (ps++ [(0,0)]) s:=by
 rw[a1D h];exact n1C _ (by rw[if_pos hz];rfl)
theorem p2K {a:Int} (h:i<4) (hz:b0B (Go.Sb.part data i)=false) (ho:e0S (Go.Sb.part data i) s=(.ok a,t)):r0E data i ps s=r0E data (i+1) (ps++ [(a,f0T (Go.Sb.part data i))]) t:=by
 rw[a1D h];exact n1C _ (by rw[if_neg (by simp[hz]),a0A ho];rfl)
theorem k2V {e:Int} (h:i<4) (hz:b0B (Go.Sb.part data i)=false) (ho:e0S (Go.Sb.part data i) s=(.err e,t)):r0E data i ps s=(.err e,t):=by
 rw[a1D h]
 rw[a0Q]
 rw[a0Q]
 rw[if_neg (by simp[hz]),a0Q ho]
theorem k2W (h:i<4) (hz:b0B (Go.Sb.part data i)=false) (hnb:(r0E data i ps s).1≠ .big):(e0S (Go.Sb.part data i) s).1≠ .big:=by
 rw[a1D h]at hnb
 have h1:=c0R (c0R hnb)
 rw[if_neg (by simp[hz])]at h1
 exact c0R h1
theorem k2X (h:ps.length=4):r0E data 4 ps s=a0B (e0S (h0B (hdP data ps))) (fun a=>a0B (fun s=>f0C (key s.bits (Sha.sum data)) a s) fun _=>ret a) s:=by
 unfold r0E
 rw[a0A (show m0K data (4-4) s=(.ok [],s)from rfl),List.append_nil,k2U h]
theorem r1K {k:B} {v:Int} (h:(f0C k v s).1≠ .big):s.log.length<1000000000:=s0G h fun h'=>by simp[f0C,a0B,back,h']
end
theorem r1L {K V:Type} [DecidableEq K] {k:K} {v:V} {p:K×V} : ∀ {m:List (K×V)},p∈c0F k v m→p=(k,v)∨p∈m
 | [],h=>by simpa [c0F] using h
 | (j,u)::m,h=>by
  unfold c0F at h
  split at h
  ·rcases List.mem_cons.1 h with h|h
   ·exact .inl h
   ·exact .inr (List.mem_cons_of_mem _ h)
  ·rcases List.mem_cons.1 h with h|h
   ·exact .inr (by rw[h];exact List.mem_cons_self ..)
   ·rcases r1L h with h|h
    ·exact .inl h
    ·exact .inr (List.mem_cons_of_mem _ h)
theorem k2Y {data:B} {i lo hi:Nat} (h1:lo=64*i) (h2:hi=64*i+64):(bs data).extract lo hi=bs (Go.Sb.part data i):=by
 subst h1 h2
 rw[i1A,List.drop_take,show 64*i+64-64*i=64 by omega];rfl
theorem r1M {place:Nat→Option (Nat×Nat)} {i off size:Nat} {vs cs:List Value} (h:place i=some (off,size)) (h1:vs.length=size) (h2:off+size≤cs.length):d0B place cs [(i,vs)]=some (cs.take off++(vs++cs.drop (off+size))):=by
 unfold d0B
 rw[h]
 simp only[d0B]
 rw[show(Nat.beq vs.length size&&Nat.ble (off+vs.length) cs.length)=true by simp[h1,h2],h1]
theorem c1K {b:B} (h:b.length≤60):(t0P b).length=64:=by unfold t0P;rw[List.length_append,p0V h,l0X]
theorem p2L {x:Hd} (h:z0U x):(h0B x).length=64:=by
 unfold h0B
 refine c1K ?_
 rw[List.length_append,List.length_append,List.length_append,h0K (k:=2) (fun a=>j0M a 2),h0K (k:=4) (fun a=>l0X a 4 4),h.n,h.m,h.sum]
 decide
set_option maxRecDepth 8000 in
attribute [local irreducible] Sl.a0L Sl.OW Sl.CW Sl.OS Sl.OM Sl.OMf Sl.KM
theorem k2Z (W:World) (hW:h0L W) (a:Ad) (s:St) (data:B) (h256:data.length=256) (hz:b0B data=false) (hbits:s.bits≤256) (hm:a0H (key s.bits (Sha.sum data)) s.index=none) (hnb:(i0F data s).1≠ .big):
 a0S Tryz.prog 164 #[ptr a.st,b0H data] (RS W a s) (Ran fT (RS W a) a0V (i0F data s)):=by
 have e0':i0F data s=r0E data 0 [] s:=by
  unfold i0F;rw[if_neg (by simp[h256]),if_neg (by simp[hz])];simp only[hm];rfl
 have hpb:(i0F data s).2.bits=s.bits:=by
  rw[e0']
  exact b0Y (f1Z data 4) (fun r=>b0Y (r0R _) fun a=>b0Y (i1T (m:=fun s=>f0C (key s.bits (Sha.sum data)) a) fun _=>e1W _ _) fun _=>d0J _) s
 refine a0S.mono_ran (Post:=Ran fT (RSb W a s.bits) a0V (i0F data s)) ?_ (fun e L h=>(r1I hpb).1 h)
 have hsz0:(hdL (hdP data [])).toArray.size=40:=by rw[List.size_toArray,v0N (g1A (by simp) (by simp))]
 have e0:i0F data s=r0E data 0 [] s:=by
  unfold i0F;rw[if_neg (by simp[h256]),if_neg (by simp[hz])];simp only[hm];rfl
 have hD:=q0F data
 have hs2:((Sha.sum data).map a0Z).toArray.size=32:=by rw[List.size_toArray,List.length_map,hD]
 refine a0C Tryz.func164 rfl Tryz.ntmps164 rfl (fun R w0=> ?_)
 simp only[a0N,List.cons_append,List.nil_append]
 refine go 10 ?_
 rw[b0N]
 refine go 3 ?_
 refine c0C rfl (by rw[h256];rfl) ?_
 refine go 6 ?_
 refine a0D rfl Hb.o rfl (x0H data (by omega)) gSp ?_
 refine ns ?_
 refine go 2 ?_
 refine c0C rfl hz ?_
 refine go 5 ?_
 refine(b0P Tsl.o Zr.o rfl rfl rfl (by simp[d0B,d0K,Value.cells]<;>rfl) (fun b19=> ?_))
 refine e0Y (fun w hs=>k1T (n:=1) (b:=b19) (l:= [b0H data]) (e:=9) rfl ((show Fnd _ (pts b19 _) _ from gFd).sat hs) (by simp[maxLen])) ?_
 refine a0D rfl Hb.o rfl (k1S W hW (.slice (some ⟨b19,0,none⟩) 1 1) [data] (by simp[h256]) (by simp)) gSp ?_
 refine ns ?_
 rw[show [data].flatten=data by simp]
 refine(a0U Zr.o (fun b5=> ?_))
 refine a0K Sz.o rfl rfl hs2 (fun x hx=>by simp at hx;obtain⟨_,_,rfl⟩:=hx;rfl) (by rw[hs2];simp[Value.cells]) (a0R (by rw[hs2];simp[Value.cells])) ?_
 refine go 4 ?_
 refine f0F gFd fun by_ gv gc o hg hok=> ?_
 simp only[e0A,d0I,List.cons_append,List.nil_append]
 refine d0H (.soft 0 (.soft 1 (.soft 2 (.soft 3 (.soft 4 (.soft 5 (.soft 6 (.soft 7 (.soft 8 (.hard 9 (.soft 10 (.soft 11 (.soft 12 (.soft 13 (.soft 14 (.soft 15 .done)))))))))))))))) [stC a s.bits,pts b5 (.cells ((Sha.sum data).map a0Z).toArray 44 (0,0)),c0T a.ix e0J a0V s.index] Fol.o (by kernel_rfl) (by repeat (first|with_reducible exact a0J.bp|with_reducible apply a0J.then|with_reducible apply a0J.inBlock)) gSp ?_
 refine go 4 ?_
 refine d0D rfl (a0O Ag.o rfl (by rw[hs2];omega) (a0I hs2)) ?_
 refine go 5 ?_
 refine a0D rfl Hb.o rfl (u0V (Sha.sum data) s.bits hD hbits) gSp ?_
 refine ns ?_
 refine go 2 ?_
 refine d0D rfl (o0Y (ek:=e0J) (ev:=a0V) (k:=d0F s.bits (Sha.sum data)) e0T.o b1T hok.2.2.2 (by rw[h0W,hD]) Zr.o rfl rfl gFd i0S) ?_
 refine go 6 ?_
 refine b0O (d0Q hg hok gSp) ?_
 rw[show a0H (d0F s.bits (Sha.sum data)) s.index=none from hm]
 refine go 11 ?_
 refine a0F (a0O Ag.o rfl (by rw[hs2];omega) (a0I hs2)) ?_
 refine a0F (r0J (cs:=hdL (hdP data [])) Pl.o rfl ((r1M (i:=2) (off:=8) (size:=32) (vs:=(Sha.sum data).map a0Z) rfl (by simp[hD]) (by exact Nat.le_refl 40)).trans (congrArg some (show(List.replicate 4 (a0V 0)++List.replicate 4 (Value.int .u32 0))++((Sha.sum data).map a0Z++ [])=_ by rw[List.append_nil];rfl)))) ?_
 refine(a0U Zr.o (fun b8=> ?_))
 refine a0K Sz.o rfl rfl hsz0 (d1X _) (by rw[hsz0];exact Nat.le_refl 40) (a0R (by rw[hsz0];rfl)) ?_
 refine go 9 ?_
 refine b0S (X:= {y:Nat×St×List (Int×Nat) // y.1≤4∧y.2.2.length=y.1∧(∀p∈y.2.2,p.2<4294967296)∧y.2.1.bits=s.bits∧i0F data s=r0E data y.1 y.2.2 y.2.1}) (fun y=> [(0,ptr a.st),(1,b0H data),(5,ptr b5),(8,ptr b8),(51,.int .i64 y.1.1)]) (fun y=>RSb W a s.bits y.1.2.1++ [pts b8 (.cells (hdL (hdP data y.1.2.2)).toArray 230 (0,0)),pts b5 (.cells ((Sha.sum data).map a0Z).toArray 44 (0,0)),R]) (fun y=>4-y.1.1) ⟨(0,s,[]),by omega,rfl,by simp,rfl,e0⟩ gSu gSp ?_
 rintro⟨⟨i,u,ps⟩,hi,hpl,hpc,hub,he⟩ m0 hm0
 try simp only at hm0
 try dsimp only
 simp only at hi hpl hpc hub he
 simp only[List.cons_append,List.nil_append]
 refine go 6 ?_
 refine b0C rfl (fun hb52=> ?_) (fun hb52=> ?_)
 ·have hi4:i<4:=by have:=of_decide_eq_true hb52;omega
  have hbz:(bs data).size=256:=by rw[b0N,h256]
  have hpt:=Go.Sb.f1W h256 hi4
  refine go 18 ?_
  refine a0F (d1I Tst.o rfl rfl rfl (by omega)) ?_
  refine go 4 ?_
  rw[k2Y (data:=data) (i:=i) (by omega) (by omega)]
  refine go 2 ?_
  refine a0D rfl Hb.o rfl (x0H (Go.Sb.part data i) (by omega)) gSp ?_
  refine ns ?_
  refine go 3 ?_
  refine b0C rfl (fun hb63=> ?_) (fun hb63=> ?_)
  ·have hnz:b0B (Go.Sb.part data i)=false:=by simpa using hb63
   have hL40:(hdL (hdP data ps)).length=40:=v0N (g1A (by omega) hpc)
   refine l0G (.soft 0 (.soft 1 (.soft 2 (.soft 3 (.soft 4 (.soft 5 (.soft 6 (.soft 8 (.soft 11 (.soft 14 (.float 9 (.hard 7 (.soft 12 (.res (.hard 10 (.hard 13 (.soft 15 (.hard 16 .done)))))))))))))))))) [stC a s.bits] Fol.o (by kernel_rfl) (by repeat (first|with_reducible exact a0J.bp|with_reducible apply a0J.then|with_reducible apply a0J.inBlock)) gSp ?_
   refine go 10 ?_
   refine s0A (e0:= [(72,_)]) rfl gSu (fun _ _ _=>rfl) Tsl.o Zr.o rfl rfl rfl (by simp[d0B,d0K,Value.cells]<;>rfl) rfl ?_
   refine c0H rfl (fun hok EE FF=> ?_)
   simp only[List.cons_append,List.nil_append]
   refine b0F rfl Hb.o rfl (f2J W a u (Go.Sb.part data i) s.bits (by omega) hub (by rw[he]at hnb;exact k2W hi4 hnz hnb)) gSp (fun x t ho=> ?_) (fun e t ho=>by(repeat (first|with_reducible refine a0G ?_|with_reducible refine a0M ?_));exact a0Y ((by rw[he];exact k2V hi4 hnz ho)) (fun _ _ h=>h) gSp)
   refine ns ?_
   refine go 1 ?_
   refine c0G (E:=EE) (F:=FF) (by repeat (first|exact Tl.nil|apply Tl.cons)) gFd gSp (hok.put rfl) ?_
   refine go 1 ?_
   refine m0B (fun b73=> ?_)
   dsimp only
   refine c0H rfl (fun hok EE FF=> ?_)
   simp only[List.cons_append,List.nil_append]
   refine a0D rfl Hb.o rfl (r0N b73 1 (bs (Go.Sb.part data i)) (by rw[b0N,hpt];simp[maxLen])) gSp ?_
   refine ns ?_
   refine go 1 ?_
   refine c0G (E:=EE) (F:=FF) (by repeat (first|exact Tl.nil|apply Tl.cons)) gFd gSp (hok.put rfl) ?_
   refine c0H rfl (fun hok EE FF=> ?_)
   simp only[List.cons_append,List.nil_append]
   refine d0V Sz.o rfl rfl rfl (by rw[Nat.blt_eq];(try rw[List.length_set]);rw[hL40];omega) rfl ?_
   refine go 1 ?_
   refine c0G (E:=EE) (F:=FF) (by repeat (first|exact Tl.nil|apply Tl.cons)) gFd gSp hok ?_
   refine go 1 ?_
   refine c0H rfl (fun hok EE FF=> ?_)
   simp only[List.cons_append,List.nil_append]
   refine d0V Sz.o rfl rfl rfl (by rw[Nat.blt_eq];(try rw[List.length_set]);rw[hL40];omega) rfl ?_
   refine go 1 ?_
   refine c0G (E:=EE) (F:=FF) (by repeat (first|exact Tl.nil|apply Tl.cons)) gFd gSp hok ?_
   refine go 1 ?_
   first|rw[x1N hpl hi4 (by omega) (by omega)]|rw[List.set_comm _ _ (by omega),x1N hpl hi4 (by omega) (by omega)]
   refine go 5 ?_
   refine b0Q (fun _ _ h=>h) (⟨(i+1,t,ps++ [(x,f0T (Go.Sb.part data i))]),hi4,by simp[hpl],by intro p hp;rcases List.mem_append.1 hp with hp|hp;(· exact hpc p hp);(· rw[List.mem_singleton.1 hp];exact w0F _),(by have:=r0R (Go.Sb.part data i) u;rw[ho]at this;exact this.trans hub),he.trans (p2K hi4 hnz ho)⟩) (by first|omega| (simp only;omega)) gSu gSp
  ·have hnz:b0B (Go.Sb.part data i)=true:=by simpa using hb63
   have hps:hdP data ps=hdP data (ps++ [(0,0)]):=by unfold hdP;rw[f2K (by omega)]
   rw[hps]
   refine go 6 ?_
   refine b0Q (fun _ _ h=>h) (⟨(i+1,u,ps++ [(0,0)]),hi4,by simp[hpl],by intro p hp;rcases List.mem_append.1 hp with hp|hp;(· exact hpc p hp);(· rw[List.mem_singleton.1 hp];decide),hub,he.trans (f2L hi4 hnz)⟩) (by first|omega| (simp only;omega)) gSu gSp
 ·obtain rfl:i=4:=by have:=of_decide_eq_false hb52;omega
  have hln:=g1A (data:=data) (by omega) hpc
  have hsz:(hdL (hdP data ps)).toArray.size=40:=by rw[List.size_toArray,v0N hln]
  rw[k2X hpl]at he
  refine go 3 ?_
  refine d0H (.soft 0 (.soft 1 (.soft 2 (.soft 3 (.soft 4 (.hard 5 (.hard 6 (.soft 7 .done)))))))) [stC a s.bits,pts b8 (.cells (hdL (hdP data ps)).toArray 230 (0,0))] Fol.o (by kernel_rfl) (by repeat (first|with_reducible exact a0J.bp|with_reducible apply a0J.then|with_reducible apply a0J.inBlock)) gSp ?_
  refine go 4 ?_
  refine d0D rfl (a0O Ag.o rfl (by rw[hsz];omega) (a0I hsz)) ?_
  refine go 1 ?_
  refine a0D rfl Hb.o rfl (q1W (hdP data ps) hln) gSp ?_
  refine ns ?_
  refine go 3 ?_
  refine b0F rfl Hb.o rfl (f2J W a u (h0B (hdP data ps)) s.bits (by rw[p2L hln];omega) hub (by rw[he]at hnb;exact c0R hnb)) gSp (fun x t ho=> ?_) (fun e t ho=>by(repeat (first|with_reducible refine a0G ?_|with_reducible refine a0M ?_));exact a0Y ((by rw[he];exact a0Q ho)) (fun _ _ h=>h) gSp)
  refine ns ?_
  refine go 6 ?_
  have htb:t.bits=s.bits:=by have:=r0R (h0B (hdP data ps)) u;rw[ho]at this;exact this.trans hub
  rw[a0A ho]at he
  have hlog:=r1K (show(f0C (key t.bits (Sha.sum data)) x t).1≠ .big by rw[he]at hnb;exact c0R hnb)
  rw[a0A (m:=fun s=>f0C (key s.bits (Sha.sum data)) x s) (show _=_ from v1C _ _ hlog),htb]at he
  refine f0F gFd fun by_ gv gc o hg hok=> ?_
  simp only[e0A,d0I,List.cons_append,List.nil_append]
  refine d0H (.soft 0 (.soft 1 (.soft 2 (.soft 3 (.soft 4 (.soft 5 (.soft 6 (.soft 7 (.soft 8 (.soft 9 (.soft 10 (.soft 11 (.soft 12 (.soft 13 (.soft 14 (.soft 15 (.soft 17 (.hard 16 (.hard 18 .done))))))))))))))))))) [stC a s.bits,pts a.heap (.cells #[ptr a.disk,ptr a.log,ptr a.gr,.map (some a.refs),.map (some by_),gv,.int .i64 t.keep] 92 (0,0)),pts b5 (.cells ((Sha.sum data).map a0Z).toArray 44 (0,0))] Fol.o (by kernel_rfl) (by repeat (first|with_reducible exact a0J.bp|with_reducible apply a0J.then|with_reducible apply a0J.inBlock)) gSp ?_
  refine go 11 ?_
  refine d0D rfl (a0O Ag.o rfl (by rw[hs2];omega) (a0I hs2)) ?_
  refine go 6 ?_
  refine a0D rfl Hb.o rfl (u0V (Sha.sum data) s.bits hD hbits) gSp ?_
  refine ns ?_
  refine go 3 ?_
  refine a0W rfl Hb.o rfl (u1K a by_ o t.log t.depth t.index (d0F s.bits (Sha.sum data)) x hlog hok.2.2.2 (by rw[h0W,hD])) gSp ?_
  rintro e _
  refine ns ?_
  refine go 10 ?_
  refine c0S (d0Q (s:= {t with log:=bk t.depth t.log (.index (key s.bits (Sha.sum data)) (a0H (key s.bits (Sha.sum data)) t.index)),index:=c0F (key s.bits (Sha.sum data)) x t.index}) hg (by exact⟨hok.1,hok.2.1,hok.2.2.1,fun p hp=>by rcases r1L hp with h|h;(· rw[h];exact(by unfold key;rw[h0W,hD]));(· exact hok.2.2.2 p h)⟩) gSp) (c0I he (fun _ _ h=>h) rfl rfl gSp)
end
section
theorem n1D (W:World) (hW:h0L W) (a:Ad) (s:St) (data:B) (hl:data.length≤1000000) (hbits:s.bits≤256) (hnb:(i0F data s).1≠ .big):a0S Tryz.prog 164 #[ptr a.st,b0H data] (RS W a s) (Ran fT (RS W a) a0V (i0F data s)):=by
 by_cases h:data.length≠256∨b0B data=true
 ·exact a2Z W a s data hl h
 ·have h1:data.length=256:=Classical.byContradiction fun e=>h (.inl e)
  have h2:b0B data=false:=by cases e:b0B data with
   |false=>rfl
   |true=>exact(h (.inr e)).elim
  cases hm:a0H (key s.bits (Sha.sum data)) s.index with
  |some a0=>exact b2A W hW a s data h1 h2 hbits a0 hm hnb
  |none=>exact k2Z W hW a s data h1 h2 hbits hm hnb
theorem k1W (at_:Int):PB (i0E at_):=fun s=>by unfold i0E;split<;>rfl
theorem x1O {α:Type} (o:Out α):PB (s0Z o):=fun _=>rfl
theorem d1Y {α:Type} (e:Int):PB (n0F e:M α):=fun _=>rfl
theorem k0S {α:Type} {p:Prop} [Decidable p] {m n:M α} (h:PB m) (h':PB n):PB (if p then m else n):=by split<;>assumption
theorem y0S {α:Type} {f:α→M Unit} (h: ∀x,PB (f x)): ∀l,PB (h0T f l)
 | []=>d0J _
 |x::l=>b0Y (h x) fun _=>y0S h l
theorem g1B (a:Int):PB (h0M a):=b0Y (k1W a) fun _=>x1O _
theorem g1C (k:Int):PB (j0X k):=fun s=>by
 unfold j0X
 split
 ·rfl
 ·exact a1B k _ s
theorem r1N (k:B):PB (g0W k):=r0Q _ (fun s=> {s with index:=b0I k s.index}) fun _=>rfl
theorem l2A (k:Int):PB (s0F k):=k0S (d0J _) (g1C k)
theorem b2B (k:Int):PB (i0Q k):=k0S (b0Y (t0E k) fun _=>d0J _) (d0J _)
theorem a1E (k:Int):PB (g0A k):=k0S (d0J _) (b0Y (g1B k) fun x=>b0Y (t0E k) fun b=>k0S (b0Y (y0S b2B _) fun _=>i1T (m:=fun s=>g0W (key s.bits x.sum)) fun _=>r1N _) (d0J _))
theorem n1E (x:Hd): ∀n,PB (f0N x n)
 |0=>d0J _
 |n+1=>by
  unfold f0N
  exact b0Y (k0S (b0Y (k1W _) fun _=>k0S (d1Y _) (d0J _)) (d0J _)) fun _=>b0Y (n1E x n) fun _=>d0J _
theorem x1P (a:Int):PB (k0H a):=k0S (d0J _) (b0Y (g1B a) fun x=>n1E x 4)
theorem p2M (a:Int):PB (q0R a):=k0S (d0J _) (b0Y (g1B a) fun x=>d0J _)
theorem k1X (data:B):PB (i0F data):=by
 unfold i0F
 refine k0S (d1Y _) (k0S (d0J _) fun s=> ?_)
 show(match a0H (key s.bits (Sha.sum data)) s.index with
  |some a=>a0B (k0H a) (fun was=>if was≠data then n0F 9 else a0B (j0X a) fun _=>ret a) s
  |none=>a0B (m0K data 4) (fun ps:List (Int×Nat)=>a0B (e0S (h0B {at_:=ps.map Prod.fst,sums:=ps.map Prod.snd,sum:=Sha.sum data})) fun a=>a0B (fun s=>f0C (key s.bits (Sha.sum data)) a s) fun _=>ret a) s).2.bits=s.bits
 split
 ·exact b0Y (x1P _) (fun _=>k0S (d1Y _) (b0Y (g1C _) fun _=>d0J _)) s
 ·exact b0Y (f1Z data 4) (fun r=>b0Y (r0R _) fun a=>b0Y (i1T (m:=fun s=>f0C (key s.bits (Sha.sum data)) a) fun _=>e1W _ _) fun _=>d0J _) s
theorem v0O (a:Int) (l:Nat):PB (Go.Sb.load a l):=k0S (d0J _) (b0Y (k1W a) fun _=>x1O _)
theorem g1D (a:Int) (l:Nat):PB (g0O a l):=k0S (d0J _) (k0S (l2A a) (g1C a))
theorem w0M: ∀l a,PB (g0B l a)
 |0,a=>a1E a
 |l+1,a=>by
  unfold g0B
  exact k0S (d0J _) (b0Y (v0O a l) fun n=>b0Y (t0E a) fun b=>k0S (y0S (w0M l) _) (d0J _))
theorem g1E (l:Nat): ∀k,PB (g0P l k)
 | []=>d0J _
 |k::r=>by
  unfold g0P
  refine b0Y ?_ fun s=>b0Y (g1E l r) fun _=>d0J _
  cases l with
  |zero=>exact p2M k
  |succ n=>exact b0Y (v0O k n) fun _=>d0J _
theorem k1Y: ∀l root at_ to_,PB (h0V l root at_ to_)
 |0,root,at_,to_=>by
  unfold h0V
  exact b0Y (v0O _ _) fun n=>b0Y (y0S (fun k=>g1D k 0) _) fun _=>b0Y (w0M _ _) fun _=>b0Y (b0Y (a1E _) fun _=>d0J _) fun r=>k0S (d0J _) (b0Y (g1E _ _) fun _=>r0R _)
 |l+1,root,at_,to_=>by
  unfold h0V
  exact b0Y (v0O _ _) fun n=>b0Y (y0S (fun k=>g1D k (l+1)) _) fun _=>b0Y (w0M _ _) fun _=>b0Y (k1Y l _ _ _) fun r=>k0S (d0J _) (b0Y (g1E _ _) fun _=>r0R _)
theorem k1Z: ∀l root at_,PB (k0I l root at_)
 |0,root,at_=>by unfold k0I;exact b0Y (v0O _ _) fun _=>d0J _
 |l+1,root,at_=>by unfold k0I;exact b0Y (v0O _ _) fun _=>k1Z l _ _
theorem l1A (root:Int) (at_:Nat) (to_:Int):PB (l0J root at_ to_):=b0Y (k1Z _ _ _) fun x=>k0S (b0Y (a1E _) fun _=>d0J _) (k1Y _ _ _ _)
theorem c1L {l:Nat} {b:B} {x:Nd} (h:f0P l b= .ok x):o0K x:=by
 unfold f0P at h
 cases ho:h0C b with
 |err e=>rw[ho]at h;cases h
 |big=>rw[ho]at h;cases h
 |ok t=>
  rw[ho]at h
  simp only at h
  have ht:t=b.take 60∧b.length=64:=by
   unfold h0C at ho
   split at ho
   ·cases ho
   ·split at ho
    ·cases ho
    ·split at ho
     ·cases ho
     ·split at ho
      ·cases ho
      ·rename_i h4;cases ho;exact⟨rfl,by omega⟩
  split at h
  ·cases h
  ·split at h
   ·cases h
   ·split at h
    ·cases h
    ·cases h
     exact⟨by simp[k0L],by simp;rw[ht.1];simp;omega⟩
theorem i0H {at_:Int} {l:Nat} {s t:St} {x:Nd} (h:Go.Sb.load at_ l s=(.ok x,t)):t=s∧o0K x:=by
 unfold Go.Sb.load at h
 split at h
 ·cases h;exact⟨rfl,⟨rfl,by simp[a0T]⟩⟩
 ·cases hg:i0E at_ s with
  |mk o u=>
   cases o with
   |ok b=>
    rw[a0A hg]at h
    unfold s0Z at h
    simp only[Prod.mk.injEq]at h
    exact⟨h.2.symm.trans (v0M hg).1,c1L h.1⟩
   |err e=>rw[a0Q hg]at h;cases h
   |big=>unfold a0B at h;rw[hg]at h;cases h
theorem p0F {l:Int} {x:Nd} (h:o0K x):(ndL l x).length=41:=by unfold ndL;simp[h.n,h.sum]
theorem d1Z (l:Int) (x:Nd): ∀v∈(ndL l x).toArray.toList,v.oneCell'=true:=by
 intro v hv
 simp only[ndL,List.mem_append,List.mem_map,List.mem_singleton]at hv
 rcases hv with rfl| ⟨_,_,rfl⟩| ⟨_,_,rfl⟩<;>rfl
theorem p2N:o0K {kids:=f0B,sum:=a0T 32} :=⟨rfl,by simp[a0T]⟩
set_option maxRecDepth 4000 in
attribute [local irreducible] Sl.a0L Sl.OW Sl.CW Sl.OS Sl.OM Sl.OMf Sl.KM
theorem r0S (W:World) (a:Ad) (s:St) (at_:Int) (l:Nat):a0S Tryz.prog 108 #[ptr a.maps,.int .i64 at_,.int .i64 l] (RS W a s) (Ran fT (RS W a) (ndV l) (Go.Sb.load at_ l s)):=by
 by_cases h0:at_=0
 ·subst h0
  rw[show Go.Sb.load 0 l s=(.ok {kids:=f0B,sum:=a0T 32},s) by unfold Go.Sb.load;rw[if_pos rfl];rfl]
  have hsz:(ndL l {kids:=f0B,sum:=a0T 32}).toArray.size=41:=by rw[List.size_toArray,p0F p2N]
  refine a0C Tryz.func108 rfl Tryz.ntmps108 rfl (fun R w0=> ?_)
  simp only[a0N,List.cons_append,List.nil_append]
  refine go 2 ?_
  refine(a0U Zr.o (fun b6=> ?_))
  refine go 13 ?_
  refine a0F (r0J (cs:=ndL l {kids:=f0B,sum:=a0T 32}) Pl.o rfl ((r1M (i:=0) (off:=0) (size:=1) (vs:= [a0V l]) rfl rfl (by exact Nat.le_add_left 1 40)).trans (by rfl))) ?_
  refine a0K Sz.o rfl rfl hsz (d1Z _ _) (by rw[hsz];exact Nat.le_refl 41) (a0R (by rw[hsz];rfl)) ?_
  refine go 2 ?_
  exact j0H rfl (fun _ _ h=>h) (RV.agg Ag.o rfl (by rw[hsz];omega) (a0I hsz) RV.nil) rfl gSp
 ·have e0:Go.Sb.load at_ l s=a0B (i0E at_) (fun b=>s0Z (f0P l b)) s:=by unfold Go.Sb.load;rw[if_neg h0]
  refine a0C Tryz.func108 rfl Tryz.ntmps108 rfl (fun R w0=> ?_)
  simp only[a0N,List.cons_append,List.nil_append]
  refine o0Z (p:=l0L s.d) gFd fun hdk=> ?_
  refine go 2 ?_
  refine(a0U Zr.o (fun b6=> ?_))
  refine go 9 ?_
  refine c0C rfl (by simpa using h0) ?_
  refine go 9 ?_
  refine b0F rfl Hb.o rfl (b1Z W a s at_) gSp (fun b t ho=> ?_) (fun e t ho=>by(repeat (first|with_reducible refine a0G ?_|with_reducible refine a0M ?_));exact a0Y ((by rw[e0];exact a0Q ho)) (fun _ _ h=>h) gSp)
  refine ns ?_
  obtain⟨rfl,hrd⟩:=v0M ho
  have hbl:=m1Y hdk hrd
  have ho1:=ho
  refine go 1 ?_
  refine b0F rfl Hb.o rfl (r1A l b (by omega)) gSp (fun x u ho=> ?_) (fun e t ho=>by(repeat (first|with_reducible refine a0G ?_|with_reducible refine a0M ?_));exact a0Y ((by rw[e0,a0A ho1];unfold s0Z;rw[show f0P l b= .err e from congrArg Prod.fst ho])) (fun _ _ h=>h) gSp)
  refine ns ?_
  have hx:f0P l b= .ok x:=congrArg Prod.fst ho
  have hln:=c1L hx
  have hsz:(ndL l x).toArray.size=41:=by rw[List.size_toArray,p0F hln]
  have hr:Go.Sb.load at_ l t=(.ok x,t):=by rw[e0,a0A ho1];unfold s0Z;rw[hx]
  refine a0K Sz.o rfl rfl hsz (d1Z _ _) (by rw[hsz];exact Nat.le_refl 41) (a0R (by rw[hsz];rfl)) ?_
  refine go 2 ?_
  exact j0H hr (fun _ _ h=>h) (RV.agg Ag.o rfl (by rw[hsz];omega) (a0I hsz) RV.nil) rfl gSp
theorem i1U (W:World) (a:Ad) (s:St) (at_:Int) (l:Nat) (hnb:(g0O at_ l s).1≠ .big):a0S Tryz.prog 183 #[ptr a.maps,.int .i64 at_,.int .i64 l] (RS W a s) (Ran fT (RS W a) k0P (g0O at_ l s)):=by
 by_cases h0:at_=0
 ·rw[show g0O at_ l s=(.ok (),s) by unfold g0O;rw[if_pos h0];rfl]
  refine a0C Tryz.func183 rfl Tryz.ntmps183 rfl (fun R w0=> ?_)
  simp only[a0N,List.cons_append,List.nil_append]
  refine go 8 ?_
  refine d0W rfl (by simpa using h0) ?_
  refine go 1 ?_
  exact d0X rfl rfl rfl gSp
 ·by_cases hl:l=0
  ·subst hl
   have hr:g0O at_ 0 s=s0F at_ s:=by unfold g0O;rw[if_neg h0,if_pos rfl]
   rw[hr]at hnb ⊢
   refine a0C Tryz.func183 rfl Tryz.ntmps183 rfl (fun R w0=> ?_)
   simp only[a0N,List.cons_append,List.nil_append]
   refine go 8 ?_
   refine c0C rfl (by simpa using h0) ?_
   refine go 14 ?_
   refine b0F rfl Hb.o rfl (a2W W a s at_ hnb) gSp (fun u t ho=> ?_) (fun e t ho=>by(repeat (first|with_reducible refine a0G ?_|with_reducible refine a0M ?_));exact a0Y (ho) (fun _ _ h=>h) gSp)
   refine ns ?_
   refine go 1 ?_
   exact d0X ho rfl rfl gSp
  ·have hr:g0O at_ l s=j0X at_ s:=by unfold g0O;rw[if_neg h0,if_neg hl]
   rw[hr]at hnb ⊢
   refine a0C Tryz.func183 rfl Tryz.ntmps183 rfl (fun R w0=> ?_)
   simp only[a0N,List.cons_append,List.nil_append]
   refine go 8 ?_
   refine c0C rfl (by simpa using h0) ?_
   refine go 7 ?_
   refine c0C rfl (by simpa using hl) ?_
   refine go 6 ?_
   refine b0F rfl Hb.o rfl (z0P W a s at_ hnb) gSp (fun u t ho=> ?_) (fun e t ho=>by(repeat (first|with_reducible refine a0G ?_|with_reducible refine a0M ?_));exact a0Y (ho) (fun _ _ h=>h) gSp)
   refine ns ?_
   refine go 1 ?_
   exact d0X ho rfl rfl gSp
end
section
section
variable {α:Type} {f:α→M Unit} {x:α} {l:List α} {s t:St} {e:Int}
theorem x1Q (h:f x s=(.ok (),t)):h0T f (x::l) s=h0T f l t:=by
 show a0B (f x) (fun _=>h0T f l) s=_
 rw[a0A h]
theorem r1O (h:f x s=(.err e,t)):h0T f (x::l) s=(.err e,t):=by unfold h0T;rw[a0Q h]
theorem r1P (h:(h0T f (x::l) s).1≠ .big):(f x s).1≠ .big:=by unfold h0T at h;exact c0R h
end
abbrev g1F (W:World) (a:Ad) (l:Nat):Prop:= ∀(s:St) (at_:Int),s.bits≤256→(g0B l at_ s).1≠ .big→a0S Tryz.prog 207 #[ptr a.maps,.int .i64 at_,.int .i64 l] (RS W a s) (Ran fT (RS W a) k0P (g0B l at_ s))
abbrev g1G (W:World) (a:Ad) (l:Nat):Prop:= ∀(s:St) (at_:Int),s.bits≤256→(g0B (l+1) at_ s).1≠ .big→a0S Tryz.prog 170 #[ptr a.maps,.int .i64 at_,.int .i64 l] (RS W a s) (Ran fT (RS W a) k0P (g0B (l+1) at_ s))
attribute [local irreducible] Sl.a0L Sl.OW Sl.CW Sl.OS Sl.OM Sl.OMf Sl.KM
theorem b2C (W:World) (a:Ad):g1F W a 0:=by
 intro s at_ hbits hnb
 have hr:g0B 0 at_ s=g0A at_ s:=rfl
 rw[hr]at hnb ⊢
 refine a0C Tryz.func207 rfl Tryz.ntmps207 rfl (fun R w0=> ?_)
 simp only[a0N,List.cons_append,List.nil_append]
 refine go 15 ?_
 refine b0F rfl Hb.o rfl (a1C W a s at_ hbits hnb) gSp (fun u t ho=> ?_) (fun e t ho=>by(repeat (first|with_reducible refine a0G ?_|with_reducible refine a0M ?_));exact a0Y (ho) (fun _ _ h=>h) gSp)
 refine ns ?_
 refine go 2 ?_
 exact c0I ho (fun _ _ h=>h) rfl rfl gSp
theorem b2D (W:World) (a:Ad) (l:Nat) (hl:l<100) (hd:g1G W a l):g1F W a (l+1):=by
 intro s at_ hbits hnb
 refine a0C Tryz.func207 rfl Tryz.ntmps207 rfl (fun R w0=> ?_)
 simp only[a0N,List.cons_append,List.nil_append]
 refine go 7 ?_
 refine c0C rfl (by simp;omega) ?_
 refine go 7 ?_
 rw[show((l+1:Nat):Int)-1=(l:Int) by omega]
 refine b0F rfl Hb.o rfl (hd s at_ hbits hnb) gSp (fun u t ho=> ?_) (fun e t ho=>by(repeat (first|with_reducible refine a0G ?_|with_reducible refine a0M ?_));exact a0Y (ho) (fun _ _ h=>h) gSp)
 refine ns ?_
 refine go 1 ?_
 exact d0X ho rfl rfl gSp
set_option maxRecDepth 4000 in
theorem i1V (W:World) (a:Ad) (l:Nat) (hd:g1F W a l):g1G W a l:=by
 intro s at_ hbits hnb
 by_cases h0:at_=0
 ·subst h0
  rw[show g0B (l+1) 0 s=(.ok (),s) by unfold g0B;rw[if_pos rfl];rfl]
  refine a0C Tryz.func170 rfl Tryz.ntmps170 rfl (fun R w0=> ?_)
  simp only[a0N,List.cons_append,List.nil_append]
  refine go 8 ?_
  exact c0I rfl (fun _ _ h=>h) rfl rfl gSp
 ·have e0:g0B (l+1) at_ s=a0B (Go.Sb.load at_ l) (fun n=>a0B (e0I at_) fun b=>if b then h0T (g0B l) n.kids else ret ()) s:=by
   conv=>lhs;unfold g0B
   rw[if_neg h0]
  refine a0C Tryz.func170 rfl Tryz.ntmps170 rfl (fun R w0=> ?_)
  simp only[a0N,List.cons_append,List.nil_append]
  refine go 7 ?_
  refine c0C rfl (by simpa using h0) ?_
  refine go 7 ?_
  refine b0F rfl Hb.o rfl (r0S W a s at_ l) gSp (fun x t ho=> ?_) (fun e t ho=>by(repeat (first|with_reducible refine a0G ?_|with_reducible refine a0M ?_));exact a0Y ((by rw[e0];exact a0Q ho)) (fun _ _ h=>h) gSp)
  refine ns ?_
  obtain⟨hts,hln⟩:=i0H ho
  rw[hts]at ho ⊢
  rw[a0A ho]at e0
  have hsz:(ndL l x).toArray.size=41:=by rw[List.size_toArray,p0F hln]
  have c1:(x.kids.map a0V).length=8:=by simp[hln.n]
  have hnb1:(e0I at_ s).1≠ .big:=by rw[e0]at hnb;exact c0R hnb
  refine(a0U Zr.o (fun b6=> ?_))
  refine a0K Sz.o rfl rfl hsz (d1Z _ _) (by rw[hsz];exact Nat.le_refl 41) (a0R (by rw[hsz];rfl)) ?_
  refine go 10 ?_
  refine b0F rfl Hb.o rfl (z0R W a s at_ hnb1) gSp (fun b t ho=> ?_) (fun e t ho=>by(repeat (first|with_reducible refine a0G ?_|with_reducible refine a0M ?_));exact a0Y ((by rw[e0];exact a0Q ho)) (fun _ _ h=>h) gSp)
  refine ns ?_
  have ho20:=ho
  rw[a0A ho20]at e0
  refine go 3 ?_
  refine b0C rfl (fun hb21=> ?_) (fun hb21=> ?_)
  ·have hbf:b=false:=by simpa using hb21
   exact c0I (by rw[e0,hbf];rfl) (fun _ _ h=>h) rfl rfl gSp
  ·have hbt:b=true:=by simpa using hb21
   have he0:g0B (l+1) at_ s=h0T (g0B l) (x.kids.drop 0) t:=by rw[e0,hbt];rfl
   refine go 5 ?_
   refine a0F (a0O Ag.o rfl (by show 0+1+8≤(ndL l x).toArray.size;rw[hsz];omega) (e0M (a:= [a0V l]) rfl c1)) ?_
   refine go 4 ?_
   refine b0S (X:= {y:Nat×St // y.1≤8∧y.2.bits=s.bits∧g0B (l+1) at_ s=h0T (g0B l) (x.kids.drop y.1) y.2}) (fun y=> [(0,ptr a.maps),(2,.int .i64 l),(23,.agg (x.kids.map a0V).toArray),(24,.int .i64 y.1.1)]) (fun y=>RS W a y.1.2++ [R]) (fun y=>8-y.1.1) ⟨(0,t),by omega,by have:=t0E at_ s;rw[ho20]at this;exact this,he0⟩ gSu gSp ?_
   rintro⟨⟨i,u⟩,hi,hub,he⟩ m0 hm0
   try simp only at hm0
   try dsimp only
   simp only at hi hub he
   simp only[List.cons_append,List.nil_append]
   refine go 6 ?_
   refine b0C rfl (fun hb25=> ?_) (fun hb25=> ?_)
   ·have hi8:i<8:=by have:=of_decide_eq_true hb25;omega
    have hil:i<x.kids.length:=by rw[hln.n];exact hi8
    rw[List.drop_eq_getElem_cons hil]at he
    refine go 6 ?_
    refine a0F (q0Y Tar.o Sc.o rfl rfl (by omega) (n0W a0V x.kids i _ hil (by omega))) ?_
    refine go 7 ?_
    refine b0F rfl Hb.o rfl (hd u x.kids[i] (by omega) (by rw[he]at hnb;exact r1P hnb)) gSp (fun b' t' ho=> ?_) (fun e t ho=>by(repeat (first|with_reducible refine a0G ?_|with_reducible refine a0M ?_));exact a0Y ((by rw[he];exact r1O ho)) (fun _ _ h=>h) gSp)
    refine ns ?_
    refine go 6 ?_
    refine b0Q (fun _ _ h=>h) (⟨(i+1,t'),hi8,(by have:=w0M l x.kids[i] u;rw[ho]at this;exact this.trans hub),he.trans (x1Q ho)⟩) (by first|omega| (simp only;omega)) gSu gSp
   ·obtain rfl:i=8:=by have:=of_decide_eq_false hb25;omega
    rw[List.drop_eq_nil_of_le (by rw[hln.n];exact Nat.le_refl _)]at he
    refine go 1 ?_
    exact d0X he rfl rfl gSp
theorem c1M (W:World) (a:Ad): ∀l,l<100→g1G W a l
 |0,_=>i1V W a 0 (b2C W a)
 |l+1,h=>i1V W a (l+1) (b2D W a l (by omega) (c1M W a l (by omega)))
end
section
theorem x1R {l:Int} {x:Nd} (h:o0K x):(ndL l x).toArray.extract 9 (9+32)=(x.sum.map a0Z).toArray:=by
 rw[show ndL l x=([a0V l]++x.kids.map a0V)++(x.sum.map a0Z++ []) by simp[ndL]]
 exact e0M (by rw[List.length_append,List.length_map,h.n];rfl) (by rw[List.length_map,h.sum])
theorem r1Q {at_:Int} {s t:St} {v:B} (h:q0R at_ s=(.ok v,t)):t=s∧v.length=32:=by
 unfold q0R at h
 split at h
 ·cases h;exact⟨rfl,by simp[a0T]⟩
 ·cases hg:h0M at_ s with
  |mk o u=>
   cases o with
   |ok x=>rw[a0A hg]at h;cases h;exact⟨(r0P hg).1,(r0P hg).2.sum⟩
   |err e=>rw[a0Q hg]at h;cases h
   |big=>unfold a0B at h;rw[hg]at h;cases h
def a1F (l:Nat) (k:Int):M B:=match l with|0=>q0R k|n+1=>a0B (Go.Sb.load k n) fun x=>ret x.sum
theorem n1F {l:Nat} {k:Int} {s t:St} {v:B} (h:a1F l k s=(.ok v,t)):t=s∧v.length=32:=by
 unfold a1F at h
 cases l with
 |zero=>exact r1Q h
 |succ n=>
  simp only at h
  cases hg:Go.Sb.load k n s with
  |mk o u=>
   cases o with
   |ok x=>rw[a0A hg]at h;cases h;exact⟨(i0H hg).1,(i0H hg).2.sum⟩
   |err e=>rw[a0Q hg]at h;cases h
   |big=>unfold a0B at h;rw[hg]at h;cases h
theorem a1G (l:Nat) (k:Int) (r:List Int):g0P l (k::r)=a0B (a1F l k) fun s=>a0B (g0P l r) fun r=>ret (s::r):=rfl
def a1H (l:Nat) (r:List Int) (acc:List B) (s:St):Out (List B)×St:=a0B (g0P l r) (fun r=>ret (acc++r)) s
section
variable {l:Nat} {k:Int} {r:List Int} {acc:List B} {s t:St} {v:B} {e:Int}
theorem x1S (h:a1F l k s=(.ok v,t)):a1H l (k::r) acc s=a1H l r (acc++ [v]) t:=by
 unfold a1H
 rw[a1G]
 unfold a0B
 rw[h]
 simp only
 cases g0P l r t with
 |mk o u=>cases o<;>simp[ret]
theorem r1R (h:a1F l k s=(.err e,t)):a1H l (k::r) acc s=(.err e,t):=by
 unfold a1H
 rw[a1G]
 unfold a0B
 rw[h]
end
def t0F (acc:List B):List B:=acc++List.replicate (8-acc.length) (a0T 32)
theorem g1H {acc:List B} (h:acc.length≤8):(t0F acc).length=8:=by unfold t0F;simp;omega
theorem l1B {acc:List B} (h: ∀x∈acc,x.length=32): ∀x∈t0F acc,x.length=32:=by
 intro x hx
 unfold t0F at hx
 rcases List.mem_append.1 hx with hx|hx
 ·exact h x hx
 ·rw[List.eq_of_mem_replicate hx];simp[a0T]
theorem l2B {acc:List B} {v:B} (h:acc.length<8):(t0F acc).set acc.length v=t0F (acc++ [v]):=by
 unfold t0F
 obtain⟨m,hm⟩: ∃m,8-acc.length=m+1:=⟨8-acc.length-1,by omega⟩
 rw[List.set_append_right _ _ (Nat.le_refl _),Nat.sub_self,hm,List.replicate_succ,List.set_cons_zero,List.length_append,List.append_assoc]
 simp only[List.length_cons,List.length_nil,List.singleton_append]
 rw[show 8- (acc.length+(0+1))=m by omega]
theorem r1S {v:B} (hv:v.length=32): ∀ {X:List B} {i:Nat},(∀x∈X,x.length=32)→i<X.length→
 (X.flatMap (·.map a0Z)).take (i*32)++(v.map a0Z++(X.flatMap (·.map a0Z)).drop (i*32+32))=(X.set i v).flatMap (·.map a0Z)
 | [],i,_,h=>by simp at h
 |x::X,0,hx,_=>by
  have h0:=hx x (List.mem_cons_self ..)
  rw[List.set_cons_zero,List.flatMap_cons,List.flatMap_cons,Nat.zero_mul,List.take_zero,List.nil_append,Nat.zero_add,List.drop_left' (by rw[List.length_map,h0])]
 |x::X,i+1,hx,h=>by
  have h0:(x.map a0Z).length=32:=by rw[List.length_map];exact hx x (List.mem_cons_self ..)
  rw[List.set_cons_succ,List.flatMap_cons,List.flatMap_cons,←r1S hv (X:=X) (i:=i) (fun y hy=>hx y (List.mem_cons_of_mem _ hy)) (by simpa using h)]
  rw[show(i+1)*32=(x.map a0Z).length+i*32 by omega,List.take_length_add_append (i*32),Nat.add_assoc,List.drop_length_add_append]
  rw[List.append_assoc]
theorem e1X {acc:List B} {v:B} {o:Nat} (hv:v.length=32) (h32: ∀x∈acc,x.length=32) (h:acc.length<8) (ho:o=acc.length*32):
 i0N ((t0F acc).flatMap (·.map a0Z)).toArray o (v.map a0Z).toArray=((t0F (acc++ [v])).flatMap (·.map a0Z)).toArray:=by
 subst ho
 have hl:=f1X (l1B h32)
 rw[g1H (by omega)]at hl
 rw[←l2B h,←r1S hv (l1B h32) (by rw[g1H (by omega)];exact h)]
 unfold i0N
 apply Array.ext'
 simp only[Array.toList_append,Array.toList_extract,List.extract_eq_take_drop,List.drop_zero,Nat.sub_zero,List.size_toArray,List.length_map,hv,List.append_assoc]
 rw[List.take_of_length_le (l:=List.drop (acc.length*32+32) _) (by rw[List.length_drop];exact Nat.le_refl _)]
set_option maxRecDepth 8000 in
attribute [local irreducible] Sl.a0L Sl.OW Sl.CW Sl.OS Sl.OM Sl.OMf Sl.KM
theorem b2E (W:World) (a:Ad) (s:St) (l:Nat) (hl:l<100) (n:Nd) (hn:o0K n):a0S Tryz.prog 244 #[ptr a.maps,ndV l n] (RS W a s) (Ran fT (RS W a) a2V (g0P l n.kids s)):=by
 have e0:g0P l n.kids s=a1H l (n.kids.drop 0) [] s:=by
  unfold a1H a0B
  simp only[List.drop_zero]
  cases g0P l n.kids s with
  |mk o u=>cases o<;>rfl
 have hsz:(ndL l n).toArray.size=41:=by rw[List.size_toArray,p0F hn]
 have c1:(n.kids.map a0V).length=8:=by simp[hn.n]
 unfold ndV
 refine a0C Tryz.func244 rfl Tryz.ntmps244 rfl (fun R w0=> ?_)
 simp only[a0N,List.cons_append,List.nil_append]
 refine go 2 ?_
 refine(a0X rfl (fun b3=> ?_))
 refine(a0U Zr.o (fun b4=> ?_))
 refine go 4 ?_
 refine(a0U Zr.o (fun b5=> ?_))
 refine go 6 ?_
 refine a0F (a0O Ag.o rfl (by show 0+1+8≤(ndL l n).toArray.size;rw[hsz];omega) (e0M (a:= [a0V l]) rfl c1)) ?_
 refine go 4 ?_
 refine b0S (X:= {y:Nat×List B // y.1≤8∧y.2.length=y.1∧(∀x∈y.2,x.length=32)∧g0P l n.kids s=a1H l (n.kids.drop y.1) y.2 s}) (fun y=> [(0,ptr a.maps),(3,ptr b3),(4,ptr b4),(5,ptr b5),(9,.agg (n.kids.map a0V).toArray),(10,.int .i64 y.1.1)]) (fun y=>RS W a s++ [pts b3 (.cells (ndL l n).toArray 182 (0,0)),pts b5 (.cells ((t0F y.1.2).flatMap (·.map a0Z)).toArray 301 (0,0)),pts b4 (.cells (List.replicate 256 (Value.int .u8 0)).toArray 301 (0,0)),R]) (fun y=>8-y.1.1) ⟨(0,[]),by omega,rfl,by simp,e0⟩ gSu gSp ?_
 rintro⟨⟨i,acc⟩,hi,hal,ha32,he⟩ m0 hm0
 try simp only at hm0
 try dsimp only
 simp only at hi hal ha32 he
 simp only[List.cons_append,List.nil_append]
 have hps:((t0F acc).flatMap (·.map a0Z)).toArray.size=256:=by rw[List.size_toArray,f1X (l1B ha32),g1H (by omega)]
 refine go 6 ?_
 refine b0C rfl (fun hb11=> ?_) (fun hb11=> ?_)
 ·have hi8:i<8:=by have:=of_decide_eq_true hb11;omega
  have hil:i<n.kids.length:=by rw[hn.n];exact hi8
  rw[List.drop_eq_getElem_cons hil]at he
  refine go 7 ?_
  refine a0F (q0Y Tar.o Sc.o rfl rfl (by omega) (n0W a0V n.kids i _ hil (by omega))) ?_
  refine go 11 ?_
  refine b0C rfl (fun hb16=> ?_) (fun hb16=> ?_)
  ·obtain rfl:l=0:=by have h:=hb16;simp only[beq_iff_eq]at h;omega
   refine go 7 ?_
   refine b0F rfl Hb.o rfl (f2D W a s n.kids[i]) gSp (fun v t ho=> ?_) (fun e t ho=>by(repeat (first|with_reducible refine a0G ?_|with_reducible refine a0M ?_));exact a0Y ((by rw[he];exact r1R ho)) (fun _ _ h=>h) gSp)
   refine ns ?_
   obtain⟨hts,hvl⟩:=r1Q ho
   rw[hts]at ho ⊢
   have hvs:(v.map a0Z).toArray.size=32:=by rw[List.size_toArray,List.length_map,hvl]
   refine go 1 ?_
   refine a0K Sz.o rfl rfl hvs (fun x hx=>by simp at hx;obtain⟨_,_,rfl⟩:=hx;rfl) (by rw[hvs,hps];omega) (e1X hvl ha32 (by omega) (by omega)) ?_
   refine go 6 ?_
   refine b0Q (fun _ _ h=>h) (⟨(i+1,acc++ [v]),hi8,by simp[hal],by intro x hx;rcases List.mem_append.1 hx with hx|hx;(· exact ha32 x hx);(· rw[List.mem_singleton.1 hx];exact hvl),he.trans (x1S ho)⟩) (by first|omega| (simp only;omega)) gSu gSp
  ·obtain⟨m,rfl⟩: ∃m,l=m+1:=⟨l-1,by have h:=hb16;simp only[beq_eq_false_iff_ne]at h;omega⟩
   refine go 7 ?_
   rw[show((m+1:Nat):Int)-1=(m:Int) by omega]
   refine b0F rfl Hb.o rfl (r0S W a s n.kids[i] m) gSp (fun x t ho=> ?_) (fun e t ho=>by(repeat (first|with_reducible refine a0G ?_|with_reducible refine a0M ?_));exact a0Y ((by rw[he];exact r1R (show a0B (Go.Sb.load n.kids[i] m) (fun x=>ret x.sum) s=_ from a0Q ho))) (fun _ _ h=>h) gSp)
   refine ns ?_
   obtain⟨hts,hln⟩:=i0H ho
   rw[hts]at ho ⊢
   have hvs:(x.sum.map a0Z).toArray.size=32:=by rw[List.size_toArray,List.length_map,hln.sum]
   have hr1:a1F (m+1) n.kids[i] s=(.ok x.sum,s):=(a0A ho:a0B (Go.Sb.load n.kids[i] m) (fun x=>ret x.sum) s=_)
   refine a0F (r0X (v:=(x.sum.map a0Z).toArray) F.fa182_2 rfl (x1R hln)) ?_
   refine go 1 ?_
   refine a0K Sz.o rfl rfl hvs (fun x hx=>by simp at hx;obtain⟨_,_,rfl⟩:=hx;rfl) (by rw[hvs,hps];omega) (e1X hln.sum ha32 (by omega) (by omega)) ?_
   refine go 6 ?_
   refine b0Q (fun _ _ h=>h) (⟨(i+1,acc++ [x.sum]),hi8,by simp[hal],by intro y hy;rcases List.mem_append.1 hy with hy|hy;(· exact ha32 y hy);(· rw[List.mem_singleton.1 hy];exact hln.sum),he.trans (x1S hr1)⟩) (by first|omega| (simp only;omega)) gSu gSp
 ·obtain rfl:i=8:=by have:=of_decide_eq_false hb11;omega
  have hpa:t0F acc=acc:=by unfold t0F;rw[hal];simp
  have he1:g0P l n.kids s=(.ok acc,s):=by rw[he,List.drop_eq_nil_of_le (by rw[hn.n];exact Nat.le_refl _)];unfold a1H g0P a0B;simp[ret]
  rw[hpa]at hps ⊢
  refine go 4 ?_
  refine a0F (a0O Ag.o rfl (by show 0+256≤_;rw[hps];omega) (a0I hps)) ?_
  refine a0K Sz.o rfl rfl hps (fun x hx=>by simp at hx;obtain⟨_,_,_,_,rfl⟩:=hx;rfl) (by rw[hps];simp) (a0R (by rw[hps];simp)) ?_
  refine go 2 ?_
  exact j0H he1 (fun _ _ h=>h) (RV.agg Ag.o rfl (by show 0+256≤_;rw[hps];omega) (a0I hps) RV.nil) rfl gSp
end
end Go.Proofs.Q

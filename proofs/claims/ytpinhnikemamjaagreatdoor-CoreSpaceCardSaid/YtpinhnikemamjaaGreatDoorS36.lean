/- Part of the proof; no statement of its own. -/
import Derived.Test.YtpinhnikemamjaaGreatDoorS18
import Derived.Test.YtpinhnikemamjaaGreatDoorS23
import Derived.Test.YtpinhnikemamjaaGreatDoorS35
import Derived.Test.YtpinhnikemamjaaGreatDoorS17
set_option linter.all false
set_option maxRecDepth 4000
set_option maxHeartbeats 4000000
attribute [local irreducible] Go.Sl.a0P Go.Sl.OW Go.Sl.CW Go.Sl.OS Go.Sl.OM Go.Sl.OMf Go.Sl.KM
namespace Go.Proofs.Q
open Go.Sl Go.Sb Tryz
set_option maxRecDepth 8000
structure SP (n:Nat) (x:Nat×St×Gh×Rx×b0B):Prop where
 le:x.1≤n
 lim:x.1≤18
 j:J x.2.1 x.2.2.1 (er x.2.2.2.1)
 few:Few (4*x.1) (er x.2.2.2.1)
 free:2*x.2.2.2.1.l.length≤a0Y x.2.1
 next:x.2.2.2.1.next≤1+x.1
 bits:x.2.2.2.1.bits≤256
 core:c0Z x.2.2.2.2 x.2.2.2.1
 sml:Sml (er x.2.2.2.1)
structure SQ (x:St×Gh×Rx×b0B):Prop where
 j:J x.1 x.2.1 (er x.2.2.1)
 next:x.2.2.1.next≤19
 core:c0Z x.2.2.2 x.2.2.1
 sml:Sml (er x.2.2.1)
theorem sp0 (n m:Nat) (hm:m≤60000):SP n (0,f0X (k0Q (m+2)) 2 256 1,[],cbx 256,[]) where
 le:=Nat.zero_le _
 lim:=Nat.zero_le _
 j:=⟨CI.new (n:=m) (bits:=256) hm,rfl,(by decide:(1:Int)≤1),rfl,rfl,rfl,List.Pairwise.nil,fun v hv=>(by cases hv),fun v hv=>(by cases hv),fun p hp=>(by cases hp)⟩
 few:=fun v hv=>(by cases hv)
 free:=Nat.zero_le _
 next:=by show(1:Int)≤1+((0:Nat):Int);decide
 bits:=Nat.le_refl _
 core:=⟨l1D _ _ _,fun x hx=>(by cases hx),by show 0≤1000;decide⟩
 sml:=sml0 256
theorem SP.done {n i:Nat} {s:St} {G:Gh} {c:Rx} {H:b0B} (h:SP n (i,s,G,c,H)):SQ (s,G,c,H):=
 ⟨h.j,by have h1:=h.next;have h2:=h.lim;simp only at h1 h2 ⊢;omega,h.core,h.sml⟩
theorem SP.step {n i:Nat} {s t:St} {G G2:Gh} {c c2:Rx} {H H2:b0B} {k:Nat} {id at_ nn e f:Int} {data:B} {Q:Rp} (h:SP n (i,s,G,c,H)) (hn:i<n) (hm:i<18) (hk:k<14) (hid:0≤id∧id<32) (hact:c1K k id at_ nn data s (er c) e f t Q)
 (hj2:J t G2 Q) (hf2:2*Q.l.length≤a0Y t) (hw2:Few (4*i+4) Q) (hn2:Q.next≤(er c).next+1) (hc2:c0Z H2 c2) (hr2:er c2=Q):SP n (i+1,t,G2,c2,H2) where
 le:=hn
 lim:=hm
 j:=by show J t G2 (er c2);rw[hr2];exact hj2
 few:=by show Few (4*(i+1)) (er c2);rw[hr2,show 4*(i+1)=4*i+4 by omega];exact hw2
 free:=by show 2*c2.l.length≤a0Y t;rw[←m2Z,hr2];exact hf2
 next:=by
  have e1:c2.next=Q.next:=congrArg (fun q:Rp=>q.next) hr2;have e2:(er c).next=c.next:=rfl;have:=h.next;simp only at this;show c2.next≤1+((i+1:Nat):Int);omega
 bits:=by
  have e1:c2.bits=Q.bits:=congrArg (fun q:Rp=>q.bits) hr2;have e2:=hact.bits_ hk;have e3:(er c).bits=c.bits:=rfl;have:=h.bits;show c2.bits≤256;simp only at this;omega
 core:=hc2
 sml:=by show Sml (er c2);rw[hr2];exact hact.sml hk hid h.sml
theorem a3J {s t:St} {k:Nat} {id at_ nn e f:Int} {l:B} {c c2:Rx} {Q:Rp} {X:Nat} (hact:c1K k id at_ nn (q0K l nn) s (er c) e f t Q) (he:e=8) (hk:4<k∧k<9) (hro:a0Y s<2*(er c).l.length+8*((q0K l nn).length/256+2)) (hr2:er c2=Q) (hX:X=(o0U l).length/256+2):
 ¬((2:Int)*(c2.l.length:Nat)+8*(X:Nat)<(a0Y s:Nat)):=by
 have hq:Q=er c:=n2I hact (by omega) (by omega);have h5:c2.l.length=(er c).l.length:=by rw[←m2Z c2,hr2,hq]
 have h6:(q0K l nn).length≤(o0U l).length+1:=by unfold q0K;rw[List.length_append];split<;>simp
 have h7:=f1X l;omega
theorem a3G (W:World) (hW:i0L W) (hA:g1C (f0X (k0Q 100) 2 256 1)) (n0:Int) (v:Value) (acts:List AP) (hv:n2J W v acts):
 a0G prog 5 #[.int .i64 n0,v] [whole W] (a0T (.bool true) [whole W]):=by
 obtain⟨p,cap,rfl,hml,hcell⟩:=hv;have hmax:acts.length≤9223372036854775807:=Nat.le_trans hml (by decide);obtain⟨n,hn,hn2⟩: ∃n:Nat,20+n0%256%120=((n+2:Nat):Int)∧n≤4000:=⟨(18+n0%256%120).toNat,by omega,by omega⟩;refine en func5 ntmps5 fun R w0=> ?_;refine cg 8 (h2P W hW hA) ?_;refine go 9 ?_;refine a0D (o0O rfl rfl) ?_;rw[g1J _ (by decide)];refine go 2 ?_;rw[hn];refine ce 0 (r1J W n 256 hn2 (by decide)) ?_;rintro⟨ad,bw⟩ _;refine ns ?_;refine go 7 ?_;refine j0D (X:= {y:St×Gh×Rx×b0B // SQ y}) (fun y=> [(4,.bool false),(5,ptr bw),(6,.bool true)]) (fun y=>RS W ad y.1.1++ [f0Z bw ad.core y.1.2.2.1,c0B y.1.2.2.2,R]) ?_ ?_
 ·refine go 6 ?_;refine b0U (fun w h=>o2G h) ?_;refine a0V (X:= {y:Nat×St×Gh×Rx×b0B // SP acts.length y}) (fun y=> [(1,.slice p acts.length cap),(4,.bool false),(5,ptr bw),(6,.bool true),(7,.int .i64 (y.1.1:Nat))]) (fun y=>RS W ad y.1.2.1++ [f0Z bw ad.core y.1.2.2.2.1,c0B y.1.2.2.2.2,R]) (fun y=>acts.length-y.1.1) ⟨_,sp0 acts.length n (by omega)⟩ gSu gSp ?_;rintro⟨⟨i,s,G,c,H⟩,hca⟩ m0 hm0
  try simp only at hm0
  try dsimp only
  have hle:=hca.le;have h18:=hca.lim;dsimp only at hle h18;simp only[RS,List.cons_append,List.nil_append];refine go 2 ?_;by_cases hlt:i<acts.length
  ·refine go 9 ?_;refine b0Z (d0H rfl) (wg rfl rfl rfl (wTT (by simpa using (by omega:(i:Int)<(acts.length:Int))))) ?_;refine b0Z (s2H rfl rfl) (wg rfl rfl rfl (wTT (by simpa using (by omega:(i:Int)<(acts.length:Int))))) ?_;refine a0D (h0V rfl (by simpa using (by omega:(i:Int)<(acts.length:Int))) rfl) ?_;refine go 2 ?_;refine a0O rfl (fun hb35=> ?_) (fun hb35=> ?_)
   ·have hi18:i<18:=by have:=of_decide_eq_true hb35;omega
    obtain⟨aa,hpa,hcl⟩:=hcell i hlt;subst hpa;generalize acts[i]=x at hcl;obtain⟨ki,ai,at_,nn,l⟩:=x;obtain⟨k,hk⟩: ∃k:Nat,ki%256%14=(k:Int):=⟨(ki%256%14).toNat,by omega⟩;have hnx:=hca.next;have hbt:=hca.bits;have hjj:=hca.j;have hcc:=hca.core;have hfr:=hca.free;dsimp only at hnx hbt hjj hcc hfr;have hpos:1≤c.next:=hjj.pos;have hel:=m2Z c;obtain⟨e,f,t,Q,G2,hact,hj2,hf2,hw2,hn3,hro⟩:=hjj.actS hca.few (by dsimp only;omega) (by omega) (show c.next<1000000 by omega) (k:=k) (by omega) (ai%32) at_ nn (data:=q0K l nn) (r1N _ _).2;refine go 5 ?_;refine fx (.r 0 7 (.r 8 4 (.float 12 (.hard 7 (.res (.soft 13 (.hard 14 .done))))))) [HL ad s,f0Z bw ad.core c,whole W] ?_;refine go 6 ?_;refine h0L rfl (j0R Sc.o rfl gFd rfl) ?_;refine go 2 ?_;refine h0L rfl (i2M Tsl.o rfl rfl (by omega)) ?_;refine h0L rfl (l1E (vs:=i2B ⟨ki,ai,at_,nn,l⟩) Ag.o rfl gFd rfl hcl) ?_;refine j0Y (e0:= []) rfl gSu (fun _ _ _=>rfl) Zr.o rfl ?_;refine b0Y rfl (fun hok EE FF=> ?_);refine ns ?_;refine cg 0 (f2L ad s) ?_;refine go 1 ?_;refine fn (E:=EE) (F:=FF) (hok.put rfl) ?_;refine l0Y (fun b9=> ?_);dsimp only;refine go 1 ?_;refine b0Y rfl (fun hok EE FF=> ?_);refine ns ?_;refine go 2 ?_;refine fn (E:=EE) (F:=FF) hok ?_;refine go 3 ?_;simp only[i2B];refine ce 3 (r1O W hW ad s t bw H c ki ai at_ nn (ai%32) e f l k Q hk rfl (n2K hjj hbt) ⟨hjj.ci.dep,hjj.ci.log⟩ hcc hjj.sized hbt ⟨hpos,by omega⟩ hact) ?_;rintro⟨H2,c2⟩ ⟨hs2,hc2,hr2⟩;refine ns ?_;refine go 10 ?_;have hstep:=hca.step hlt hi18 (by omega) (by omega) hact hj2 hf2 hw2 hn3 hc2 hr2;have hjt:=hstep.j;have hst:=hstep.sml;have hnt:=hstep.next;have hft:=hstep.free;dsimp only at hjt hst hnt hft;have hdl:=f1X l;have hfw:c2.l.length≤1000:=hc2.few;obtain⟨X,hX⟩: ∃X:Nat,X=(o0U l).length/256+2:=⟨_,rfl⟩;obtain⟨pr,capr,hlv,hcapr⟩:=d0W hc2.vols;refine go 3 ?_;refine a0D (o0O rfl rfl) ?_;rw[g1J _ (by decide)];refine go 1 ?_;rw[hk];refine cg 7 (m2T l) ?_;refine go 1 ?_;rw[b0H];refine go 2 ?_;rw[show(((o0U l).length:Nat):Int)/256+2=(X:Int) by omega];refine go 6 ?_;by_cases he8:e=8
    ·refine go 6 ?_;refine d0P rfl (by simpa using he8) ?_;by_cases h4:4<k
     ·by_cases h9:k<9
      ·refine cg 5 (a3E W ad t bw H2 c2 G2 hjt hst hc2 (by omega)) ?_;refine go 14 ?_;refine b0Z (b0N (v:= .slice pr c2.l.length capr) Sc.o rfl (by exact congrArg some hlv)) (wg rfl rfl rfl (wTT (by simp;omega))) ?_;refine go 6 ?_;rw[decide_eq_false (a3J hact he8 ⟨h4,h9⟩ (hro he8 ⟨h4,h9⟩) hr2 hX)];refine go 6 ?_;refine a1U (.soft 0 (.soft 1 (.soft 2 (.soft 3 (.soft 4 (.soft 5 (.soft 6 (.soft 7 (.soft 8 (.soft 10 (.soft 11 (.soft 12 (.soft 13 (.soft 14 (.soft 15 (.soft 16 (.hard 9 (.soft 17 (.soft 18 (.soft 19 .done)))))))))))))))))))) [HLX ad,f0Z bw ad.core c2] Fol.o (by kernel_rfl) (by repeat (first|with_reducible exact b0T.bp|with_reducible apply b0T.then|with_reducible apply b0T.inBlock)) (g0T gSp) ?_;refine go 8 ?_;refine t0D rfl (r0T Sc.o rfl gFd (fun _ _=>rfl)) (wg rfl rfl rfl (wTT rfl)) ?_;refine go 4 ?_;refine t0D rfl (b0N (v:= .slice pr c2.l.length capr) Sc.o rfl (by exact congrArg some hlv)) (wg rfl rfl rfl (wTT rfl)) ?_;refine cg 4 (f2L ad t) ?_;refine go 1 ?_;refine h0B (g0T gSp) ?_;refine go 1 ?_;rw[decide_eq_true (show(2:Int)*(c2.l.length:Nat)≤(a0Y t:Nat) by omega)];refine go 9 ?_;exact rd idh (⟨(i+1,t,G2,c2,H2),hstep⟩)
      ·refine cg 5 (a3E W ad t bw H2 c2 G2 hjt hst hc2 (by omega)) ?_;refine go 27 ?_;refine a1U (.soft 0 (.soft 1 (.soft 2 (.soft 3 (.soft 4 (.soft 5 (.soft 6 (.soft 7 (.soft 8 (.soft 10 (.soft 11 (.soft 12 (.soft 13 (.soft 14 (.soft 15 (.soft 16 (.hard 9 (.soft 17 (.soft 18 (.soft 19 .done)))))))))))))))))))) [HLX ad,f0Z bw ad.core c2] Fol.o (by kernel_rfl) (by repeat (first|with_reducible exact b0T.bp|with_reducible apply b0T.then|with_reducible apply b0T.inBlock)) (g0T gSp) ?_;refine go 8 ?_;refine t0D rfl (r0T Sc.o rfl gFd (fun _ _=>rfl)) (wg rfl rfl rfl (wTT rfl)) ?_;refine go 4 ?_;refine t0D rfl (b0N (v:= .slice pr c2.l.length capr) Sc.o rfl (by exact congrArg some hlv)) (wg rfl rfl rfl (wTT rfl)) ?_;refine cg 4 (f2L ad t) ?_;refine go 1 ?_;refine h0B (g0T gSp) ?_;refine go 1 ?_;rw[decide_eq_true (show(2:Int)*(c2.l.length:Nat)≤(a0Y t:Nat) by omega)];refine go 9 ?_;exact rd idh (⟨(i+1,t,G2,c2,H2),hstep⟩)
     ·refine cg 5 (a3E W ad t bw H2 c2 G2 hjt hst hc2 (by omega)) ?_;refine go 27 ?_;refine a1U (.soft 0 (.soft 1 (.soft 2 (.soft 3 (.soft 4 (.soft 5 (.soft 6 (.soft 7 (.soft 8 (.soft 10 (.soft 11 (.soft 12 (.soft 13 (.soft 14 (.soft 15 (.soft 16 (.hard 9 (.soft 17 (.soft 18 (.soft 19 .done)))))))))))))))))))) [HLX ad,f0Z bw ad.core c2] Fol.o (by kernel_rfl) (by repeat (first|with_reducible exact b0T.bp|with_reducible apply b0T.then|with_reducible apply b0T.inBlock)) (g0T gSp) ?_;refine go 8 ?_;refine t0D rfl (r0T Sc.o rfl gFd (fun _ _=>rfl)) (wg rfl rfl rfl (wTT rfl)) ?_;refine go 4 ?_;refine t0D rfl (b0N (v:= .slice pr c2.l.length capr) Sc.o rfl (by exact congrArg some hlv)) (wg rfl rfl rfl (wTT rfl)) ?_;refine cg 4 (f2L ad t) ?_;refine go 1 ?_;refine h0B (g0T gSp) ?_;refine go 1 ?_;rw[decide_eq_true (show(2:Int)*(c2.l.length:Nat)≤(a0Y t:Nat) by omega)];refine go 9 ?_;exact rd idh (⟨(i+1,t,G2,c2,H2),hstep⟩)
    ·refine go 6 ?_;refine b0S rfl (by simpa using he8) ?_;obtain rfl:e=f:=hact.same.resolve_right he8;refine go 7 ?_;rw[show(e == e)=true by simp];refine go 3 ?_;refine a1U (.soft 0 (.soft 1 (.soft 2 (.soft 3 (.soft 4 (.soft 5 (.soft 6 (.soft 7 (.soft 8 (.soft 10 (.soft 11 (.soft 12 (.soft 13 (.soft 14 (.soft 15 (.soft 16 (.hard 9 (.soft 17 (.soft 18 (.soft 19 .done)))))))))))))))))))) [HLX ad,f0Z bw ad.core c2] Fol.o (by kernel_rfl) (by repeat (first|with_reducible exact b0T.bp|with_reducible apply b0T.then|with_reducible apply b0T.inBlock)) (g0T gSp) ?_;refine go 8 ?_;refine t0D rfl (r0T Sc.o rfl gFd (fun _ _=>rfl)) (wg rfl rfl rfl (wTT rfl)) ?_;refine go 4 ?_;refine t0D rfl (b0N (v:= .slice pr c2.l.length capr) Sc.o rfl (by exact congrArg some hlv)) (wg rfl rfl rfl (wTT rfl)) ?_;refine cg 4 (f2L ad t) ?_;refine go 1 ?_;refine h0B (g0T gSp) ?_;refine go 1 ?_;rw[decide_eq_true (show(2:Int)*(c2.l.length:Nat)≤(a0Y t:Nat) by omega)];refine go 9 ?_;exact rd idh (⟨(i+1,t,G2,c2,H2),hstep⟩)
   ·refine go 1 ?_;exact me idh (⟨(s,G,c,H),hca.done⟩)
  ·refine go 9 ?_;refine c0D rfl (wg rfl rfl rfl (wTF (by simpa using (by omega: ¬(i:Int)<(acts.length:Int))))) ?_;refine c0D rfl (wg rfl rfl rfl (wTF (by simpa using (by omega: ¬(i:Int)<(acts.length:Int))))) ?_;refine a0D (h0H rfl (by simpa using (by omega: ¬(i:Int)<(acts.length:Int))) rfl) ?_;refine go 4 ?_;exact me idh (⟨(s,G,c,H),hca.done⟩)
 rintro⟨⟨s,G,c,H⟩,hcb⟩;have hnx:=hcb.next;dsimp only at hnx ⊢;simp only[RS,List.cons_append,List.nil_append];refine cg 6 (a3E W ad s bw H c G hcb.j hcb.sml hcb.core (by omega)) ?_;refine go 4 ?_;exact rG
theorem a3H (W:World) (hW:i0L W) (n0:Int) (_:(Lit.int .i64 n0).wf=true) (v:Value) (hv:y1B W v):
 a0G prog 5 #[.int .i64 n0,v] [whole W] (a0T (.bool true) [whole W]):=by
 obtain⟨acts,ha⟩:=w2T hv;exact a3G W hW y1C n0 v acts ha
end Go.Proofs.Q

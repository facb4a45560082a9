/- Part of the proof; no statement of its own. -/
import Derived.Test.YtpinhnikemamjaaGreatDoorB23
import Derived.Test.YtpinhnikemamjaaGreatDoorB18
import Derived.Test.YtpinhnikemamjaaGreatDoorB32
import Derived.Test.YtpinhnikemamjaaGreatDoorB17
set_option linter.all false
set_option maxRecDepth 4000
set_option maxHeartbeats 4000000
attribute [local irreducible] Go.Sl.a0O Go.Sl.OW Go.Sl.CW Go.Sl.OS Go.Sl.OM Go.Sl.OMf Go.Sl.KM
namespace Go.Proofs.Q
open Go.Sl Go.Sb Tryz
def p2N (e n:Int) (x:b0A×Rx):Value:= .tuple #[e0R x.2,.int .i64 n,.int .i64 e]
def n1W (e:Int) (x:b0A×Rx):Value:= .tuple #[e0R x.2,.int .i64 e]
theorem k2S (c:Rx):(er c).l.length=c.l.length:=by simp[er]
theorem g0H {H:b0A} {c:Rx} (hc:c0T H c):x0X H (er c) (H,c):=⟨fun _ h=>h,hc,rfl⟩
theorem w2Y (lv:Value) (l:List Vx) (n b e) (v:Vx) (lv2 n2):er {lv:=lv,l:=l++ [v],next:=n2,bits:=b,epoch:=e} = {er {lv:=lv2,l:=l,next:=n,bits:=b,epoch:=e} with l:=(er {lv:=lv2,l:=l,next:=n,bits:=b,epoch:=e}).l++ [v.v],next:=n2} :=by
 unfold er;simp only[List.map_append,List.map_cons,List.map_nil]
theorem q1B (H:b0A) (c:Rx) (v:Vx) (hc:c0T H c) (hv:m0Z H v) (hn:0≤c.next∧c.next<1000000000):a0F prog 100 #[e0R c,z0H v] [b0Z H]
 (b0N (x0X H (g0Q (er c) v.v).1) (p2N (g0Q (er c) v.v).2.2 (g0Q (er c) v.v).2.1) (fun x=> [b0Z x.1])):=by
 obtain⟨p,cap,hlv,hcap⟩:=d0Q hc.vols
 obtain⟨lv,l,next,bits,epoch⟩:=c
 dsimp only at hlv hn hcap
 subst hlv
 have hfew:=hc.few
 have hrow:=hc.vols
 dsimp only at hfew hrow
 have hfl:=h0S t0Y l
 by_cases h15:15<l.length
 ·rw[show g0Q (er ⟨.slice p l.length cap,l,next,bits,epoch⟩) v.v=(er ⟨.slice p l.length cap,l,next,bits,epoch⟩,0,13) by unfold g0Q;rw[if_pos (by rw[k2S];exact h15)]]
  refine en func100 ntmps100 fun R w0=> ?_
  try simp only[e0R,a0H,z0H]
  refine go 2 ?_
  refine bx fun b2=> ?_
  refine bx fun b3=> ?_
  refine al fun b4=> ?_
  refine go 13 ?_
  refine d0R rfl (by simpa using (by omega:(15:Int)<(l.length:Int))) ?_
  refine go 2 ?_
  refine a0D (a0L (v:= #[.slice p l.length cap,.int .i64 next,.int .i64 bits,.int .i64 epoch]) Ag.o rfl (by simp[Value.cells]) (a0G (by simp[Value.cells]))) ?_
  refine(a0M Sz.o rfl rfl (by first|rfl|simp) (by simp[Value.oneCell']) (by simp[Value.cells]) (by simp[i0X,Value.cells]<;>rfl) ?_)
  refine go 4 ?_
  exact c0N (x:=((H,⟨.slice p l.length cap,l,next,bits,epoch⟩):b0A×Rx)) (g0H hc) idh (RV.agg Ag.o rfl (by simp) (by rfl) (RV.tmp rfl (RV.tmp rfl RV.nil))) rfl gSp
 ·have hr:g0Q (er ⟨.slice p l.length cap,l,next,bits,epoch⟩) v.v=({er ⟨.slice p l.length cap,l,next,bits,epoch⟩with l:=(er ⟨.slice p l.length cap,l,next,bits,epoch⟩).l++ [{v.v with id:=next,born:=epoch}],next:=next+1},next,0):=by unfold g0Q;rw[if_neg (by rw[k2S];exact h15)];rfl
  obtain⟨v2,hv2⟩: ∃v2:Vx,v2= {v with v:= {v.v with id:=next,born:=epoch}} :=⟨_,rfl⟩
  have hvk:m0Z H v2:=by rw[hv2];exact hv
  have hvc:a0S v2= [.int .i64 next,.int .i64 v.v.parent,.bool v.v.only,.int .i64 v.v.size,.int .i64 epoch,v.mv]:=by rw[hv2];rfl
  rw[hr]
  refine en func100 ntmps100 fun R w0=> ?_
  try simp only[e0R,a0H,z0H,a0S]
  refine go 2 ?_
  refine bx fun b2=> ?_
  refine bx fun b3=> ?_
  refine al fun b4=> ?_
  refine go 13 ?_
  refine b0R rfl (by simpa using (by omega: ¬(15:Int)<(l.length:Int))) ?_
  refine go 2 ?_
  refine q0V ([(2,.pointer (some ⟨b2,0,none⟩)),(3,.pointer (some ⟨b3,0,none⟩)),(4,.pointer (some ⟨b4,0,none⟩))]) ([pts b2 (.cells #[.slice p l.length cap,.int .i64 next,.int .i64 bits,.int .i64 epoch] 34 (0,0)),pts b3 (.cells #[.int .i64 next,.int .i64 v.v.parent,.bool v.v.only,.int .i64 v.v.size,.int .i64 epoch,v.mv] 42 (0,0)),pts b4 (.cells #[.slice none 0 0,.int .i64 0,.int .i64 0,.int .i64 0] 34 (0,0)),b0Z H,R]) ?_ ?_
  ·refine mx (.r 0 5 (.hard 5 (.soft 6 (.hard 7 .done)))) [pts b2 (.cells #[.slice p l.length cap,.int .i64 next,.int .i64 bits,.int .i64 epoch] 34 (0,0))] ?_
   refine go 15 ?_
   exact h0C idh gSu gSp
  refine go 10 ?_
  refine u0P 8 (by rfl) (.soft 1 (.soft 2 (.soft 4 (.float 5 (.hard 0 (.hard 3 (.res (.hard 6 (.soft 7 .done))))))))) [pts b2 (.cells #[.slice p l.length cap,.int .i64 (next+1),.int .i64 bits,.int .i64 epoch] 34 (0,0)),pts b3 (.cells #[.int .i64 next,.int .i64 v.v.parent,.bool v.v.only,.int .i64 v.v.size,.int .i64 epoch,v.mv] 42 (0,0))] Fol.o (by kernel_rfl) (by repeat (first|with_reducible exact b0S.bp|with_reducible apply b0S.then|with_reducible apply b0S.inBlock)) gSp ?_
  simp only[List.take_succ_cons,List.take_zero]
  refine go 2 ?_
  refine i0L rfl (a0L (v:= #[.int .i64 next,.int .i64 v.v.parent,.bool v.v.only,.int .i64 v.v.size,.int .i64 epoch,v.mv]) Ag.o rfl (by simp[Value.cells]) (a0G (by simp[Value.cells]))) ?_
  refine s0Q (e0:= [(26,_)]) rfl gSu (fun _ _ _=>rfl) Tsl.o Zr.o rfl rfl rfl (by simp[l0Y,q0Y,Value.cells]<;>rfl) rfl ?_
  refine c0F rfl (fun hok EE FF=> ?_)
  refine ns ?_
  refine bl fun b22=> ?_
  refine e0K (fun w h=>n0U 6 h) ?_
  refine go 1 ?_
  refine fn (E:=EE) (F:=FF) (hok.put rfl) ?_
  refine c0F rfl (fun hok EE FF=> ?_)
  refine ns ?_
  refine(c0Z (news:=l.flatMap a0S) Tsl.o Ttb.o Zr.o rfl rfl rfl gFd (a1U Tsl.o hrow gFd (w0T hc.maps)) (by simp only[maxLen];omega) (by omega) (fun v25 hv25=> ?_))
  refine go 1 ?_
  refine fn (E:=EE) (F:=FF) (hok.put rfl) ?_
  refine n0A (fun b27=> ?_)
  dsimp only
  refine c0F rfl (fun hok EE FF=> ?_)
  refine ns ?_
  refine(c0Z (news:=a0S v2) Tsl.o Ttb.o Zr.o rfl rfl rfl gFd (e0Z Tsl.o (by rw[hvc];rfl) (by rw[hvc];rfl) (q0Q hvk)) (by simp only[maxLen];omega) (by omega) (fun v28 hv28=> ?_))
  refine go 1 ?_
  refine fn (E:=EE) (F:=FF) (hok.put rfl) ?_
  refine go 2 ?_
  refine z0L ?_
  refine go 4 ?_
  refine i0Y (e:=42) gFd (by omega) fun bw capw hvw hcapw=> ?_
  subst hvw
  rw[show 0+l.length=l.length from Nat.zero_add _]
  refine mx (.r 0 3 (.hard 3 (.r 4 2 .done))) [pts b2 (.cells #[.slice (some ⟨bw,0,none⟩) (l.length+1) capw,.int .i64 (next+1),.int .i64 bits,.int .i64 epoch] 34 (0,0)),pts b3 (.cells #[.int .i64 next,.int .i64 v.v.parent,.bool v.v.only,.int .i64 v.v.size,.int .i64 epoch,v.mv] 42 (0,0))] ?_
  refine c0V rfl (a0L (v:= #[.slice (some ⟨bw,0,none⟩) (l.length+1) capw,.int .i64 (next+1),.int .i64 bits,.int .i64 epoch]) Ag.o rfl (by simp[Value.cells]) (a0G (by simp[Value.cells]))) ?_
  refine go 3 ?_
  refine(a0M Sz.o rfl rfl (by first|rfl|simp) (by simp[Value.oneCell']) (by simp[Value.cells]) (by simp[i0X,Value.cells]<;>rfl) ?_)
  refine go 6 ?_
  refine s0U (show Fnd _ (b0H 42 6 (.slice (some ⟨bw,0,none⟩) (l.length+1) capw) (l.length+1) (l.flatMap a0S++a0S v2)) _ from gFd) (show Fnd _ (b0Z H) _ from gFd) fun H' hs hr2=> ?_
  exact c0N (x:=((H',⟨.slice (some ⟨bw,0,none⟩) (l.length+1) capw,l++ [v2],next+1,bits,epoch⟩):b0A×Rx)) ⟨hs,⟨(by show i0E _ _ _ _ (l++ [v2]).length _;rw[List.length_append,List.flatMap_append,List.flatMap_singleton];exact hr2),fun x hx=>by rcases List.mem_append.1 hx with h|h;{exact(hc.maps x h).more hs};{rw[List.mem_singleton.1 h];exact hvk.more hs},by simp;omega⟩,by rw[hv2];exact w2Y _ l _ _ _ _ _ _⟩ idh (RV.agg Ag.o rfl (by simp) (by rfl) (RV.tmp rfl (RV.tmp rfl RV.nil))) rfl gSp
theorem c0H {H:b0A} {c:Rx} (hc:c0T H c): ∀u∈a0H c,u.oneCell'=true:=fun u hu=>by
 simp only[a0H,List.mem_cons,List.not_mem_nil,or_false]at hu
 rcases hu with rfl|rfl|rfl|rfl
 ·exact hc.vols.one
 ·rfl
 ·rfl
 ·rfl
theorem p0A {H:b0A} {c:Rx} {id:Int} {i:Nat} (hc:c0T H c) (h:c0O (er c).l id=some i):a0F prog 101 #[e0R c,.int .i64 id] [b0Z H] (a0T (.int .i64 (i:Int)) [b0Z H]):=by
 have:=l1L H c id hc
 unfold d1H at this
 rw[h]at this
 exact this
theorem r0H {H:b0A} {c:Rx} {id:Int} (hc:c0T H c) (h:c0O (er c).l id=none):a0F prog 101 #[e0R c,.int .i64 id] [b0Z H] (a0T (.int .i64 (-1)) [b0Z H]):=by
 have:=l1L H c id hc
 unfold d1H at this
 rw[h]at this
 exact this
theorem n0C {c:Rx} {i:Nat} (h:i<c.l.length):(er c).l.getD i v0=c.l[i].v:=by
 rw[List.getD_eq_getElem?_getD,List.getElem?_eq_getElem (by simpa [er] using h)]
 simp[er]
theorem p2O (H:b0A) (s:Int):m0Z H {v:= {v0 with size:=s},mv:= .slice none 0 0} :=⟨j1X H _ 2,o1N⟩
theorem v1Q (H:b0A) (c:Rx) (size:Int) (hc:c0T H c) (hn:0≤c.next∧c.next<1000000000):a0F prog 42 #[e0R c,.int .i64 size] [b0Z H]
 (b0N (x0X H (e0S (er c) size).1) (p2N (e0S (er c) size).2.2 (e0S (er c) size).2.1) (fun x=> [b0Z x.1])):=by
 have hone:=c0H hc
 by_cases hb:size<1∨2048<size
 ·rw[show e0S (er c) size=(er c,0,4) by unfold e0S;rw[if_pos hb]]
  refine en func42 ntmps42 fun R w0=> ?_
  try simp only[e0R,a0H]
  refine go 2 ?_
  refine bx fun b2=> ?_
  refine al fun b4=> ?_
  refine go 6 ?_
  by_cases hlt:size<1
  ·refine go 12 ?_
   refine a0D (a0L (v:= #[c.lv,.int .i64 c.next,.int .i64 c.bits,.int .i64 c.epoch]) Ag.o rfl (by simp[Value.cells]) (a0G (by simp[Value.cells]))) ?_
   refine a0M Sz.o rfl rfl rfl (fun u hu=>hone u (by simpa [a0H] using hu)) (by simp[Value.cells,a0H,a0S]) (a0N (by simp[Value.cells,a0H,a0S])) ?_
   refine go 4 ?_
   exact c0N (x:=((H,c):b0A×Rx)) (g0H hc) idh (RV.agg Ag.o rfl (by simp[a0H]) (by rfl) (RV.tmp rfl (RV.tmp rfl RV.nil))) rfl gSp
  ·refine go 9 ?_
   refine d0R rfl (by simpa using (by omega:2048<size)) ?_
   refine go 2 ?_
   refine a0D (a0L (v:= #[c.lv,.int .i64 c.next,.int .i64 c.bits,.int .i64 c.epoch]) Ag.o rfl (by simp[Value.cells]) (a0G (by simp[Value.cells]))) ?_
   refine a0M Sz.o rfl rfl rfl (fun u hu=>hone u (by simpa [a0H] using hu)) (by simp[Value.cells,a0H,a0S]) (a0N (by simp[Value.cells,a0H,a0S])) ?_
   refine go 4 ?_
   exact c0N (x:=((H,c):b0A×Rx)) (g0H hc) idh (RV.agg Ag.o rfl (by simp[a0H]) (by rfl) (RV.tmp rfl (RV.tmp rfl RV.nil))) rfl gSp
 ·rw[show e0S (er c) size=g0Q (er c) {v0 with size:=size} by unfold e0S;rw[if_neg hb]]
  refine en func42 ntmps42 fun R w0=> ?_
  try simp only[e0R,a0H]
  refine go 2 ?_
  refine bx fun b2=> ?_
  refine al fun b4=> ?_
  refine go 15 ?_
  refine b0R rfl (by simpa using (by omega: ¬2048<size)) ?_
  refine go 4 ?_
  refine a0D (a0L (v:= #[c.lv,.int .i64 c.next,.int .i64 c.bits,.int .i64 c.epoch]) Ag.o rfl (by simp[Value.cells]) (a0G (by simp[Value.cells]))) ?_
  refine ce 2 (q1B H c {v:= {v0 with size:=size},mv:= .slice none 0 0} hc (p2O H size) hn) ?_
  rintro⟨H',c'⟩ ⟨hs',hc',hr'⟩
  refine ns ?_
  refine go 3 ?_
  refine a0M Sz.o rfl rfl rfl (fun u hu=>c0H hc' u (by simpa using hu)) (by simp[Value.cells,a0H,a0S]) (a0N (by simp[Value.cells,a0H,a0S])) ?_
  refine go 4 ?_
  exact c0N (x:=((H',c'):b0A×Rx)) ⟨hs',hc',hr'⟩ idh (RV.agg Ag.o rfl (by simp[a0H]) (by rfl) (RV.tmp rfl (RV.tmp rfl RV.nil))) rfl gSp
theorem l1S (H:b0A) (c:Rx) (id:Int) (only:Bool) (hc:c0T H c) (hn:0≤c.next∧c.next<1000000000):a0F prog 45 #[e0R c,.int .i64 id,.bool only] [b0Z H]
 (b0N (x0X H (i0N (er c) id only).1) (p2N (i0N (er c) id only).2.2 (i0N (er c) id only).2.1) (fun x=> [b0Z x.1])):=by
 have hone:=c0H hc
 obtain⟨p,cap,hlv,hcap⟩:=d0Q hc.vols
 have hrow:=hc.vols
 rw[hlv]at hrow
 have hfew:=hc.few
 cases hf:c0O (er c).l id with
 |none=>
  rw[show i0N (er c) id only=(er c,0,5) by unfold i0N;rw[hf]]
  refine en func45 ntmps45 fun R w0=> ?_
  try simp only[e0R,a0H]
  refine go 2 ?_
  refine bx fun b3=> ?_
  refine al fun b6=> ?_
  refine go 6 ?_
  refine a0D (a0L (v:= #[c.lv,.int .i64 c.next,.int .i64 c.bits,.int .i64 c.epoch]) Ag.o rfl (by simp[Value.cells]) (a0G (by simp[Value.cells]))) ?_
  refine cg 1 (r0H hc hf) ?_
  refine go 13 ?_
  refine a0D (a0L (v:= #[c.lv,.int .i64 c.next,.int .i64 c.bits,.int .i64 c.epoch]) Ag.o rfl (by simp[Value.cells]) (a0G (by simp[Value.cells]))) ?_
  refine a0M Sz.o rfl rfl rfl (fun u hu=>hone u (by simpa [a0H] using hu)) (by simp[Value.cells,a0H,a0S]) (a0N (by simp[Value.cells,a0H,a0S])) ?_
  refine go 4 ?_
  exact c0N (x:=((H,c):b0A×Rx)) (g0H hc) idh (RV.agg Ag.o rfl (by simp[a0H]) (by rfl) (RV.tmp rfl (RV.tmp rfl RV.nil))) rfl gSp
 |some i=>
  have hil:i<c.l.length:=by have:=t0Z hf;simpa [er] using this
  rw[show i0N (er c) id only=g0Q (er c) {v0 with parent:=id,only:=only,size:=c.l[i].v.size,m:=c.l[i].v.m} by unfold i0N;rw[hf];simp only[n0C hil]]
  obtain⟨b,o,cap',cur,hv,hcp,hmem,hcut,hlen⟩:=g0G hrow (by omega)
  cases hv
  have hcu:(cur.drop (o+i*6)).take 6=a0S c.l[i]:=(h0R hcut hil).trans (m0V c.l hil)
  have hvi:=hc.maps _ (List.getElem_mem hil)
  obtain⟨pm,capm,hmv,hcm⟩:=d0Q hvi.1
  have hvi2:m0Z H {v:= {v0 with parent:=id,only:=only,size:=c.l[i].v.size,m:=c.l[i].v.m},mv:= .slice pm c.l[i].v.m.length capm} :=by rw[←hmv];exact hvi
  refine en func45 ntmps45 fun R w0=> ?_
  try simp only[e0R,a0H]
  refine go 2 ?_
  refine bx fun b3=> ?_
  refine al fun b6=> ?_
  refine go 6 ?_
  refine a0D (a0L (v:= #[c.lv,.int .i64 c.next,.int .i64 c.bits,.int .i64 c.epoch]) Ag.o rfl (by simp[Value.cells]) (a0G (by simp[Value.cells]))) ?_
  refine cg 1 (p0A hc hf) ?_
  refine go 10 ?_
  refine b0R rfl (by simpa using (by omega: ¬((i:Int)<0))) ?_
  refine go 5 ?_
  refine a0D (b0M (v:= .slice (some ⟨b,o,none⟩) c.l.length cap) Sc.o rfl (by rw[hlv];rfl)) ?_
  refine go 2 ?_
  refine a0D (e0U (vs:=a0S c.l[i]) Ag.o rfl gFd hmem hcu rfl (by decide)) ?_
  refine al fun b10=> ?_
  refine a0M Sz.o rfl rfl rfl (fun u hu=>q0Q hvi u (by simpa using hu)) (by simp[Value.cells,a0H,a0S]) (a0N (by simp[Value.cells,a0H,a0S])) ?_
  refine go 4 ?_
  refine a0D (a0L (v:= #[c.lv,.int .i64 c.next,.int .i64 c.bits,.int .i64 c.epoch]) Ag.o rfl (by simp[Value.cells]) (a0G (by simp[Value.cells]))) ?_
  refine go 5 ?_
  refine a0D (b0M (v:= .slice pm c.l[i].v.m.length capm) Sc.o rfl (by rw[←hmv];rfl)) ?_
  refine ce 1 (q1B H c {v:= {v0 with parent:=id,only:=only,size:=c.l[i].v.size,m:=c.l[i].v.m},mv:= .slice pm c.l[i].v.m.length capm} hc hvi2 hn) ?_
  rintro⟨H',c'⟩ ⟨hs',hc',hr'⟩
  refine ns ?_
  refine go 3 ?_
  refine a0M Sz.o rfl rfl rfl (fun u hu=>c0H hc' u (by simpa using hu)) (by simp[Value.cells,a0H,a0S]) (a0N (by simp[Value.cells,a0H,a0S])) ?_
  refine go 4 ?_
  exact c0N (x:=((H',c'):b0A×Rx)) ⟨hs',hc',hr'⟩ idh (RV.agg Ag.o rfl (by simp[a0H]) (by rfl) (RV.tmp rfl (RV.tmp rfl RV.nil))) rfl gSp
theorem k2T {H:b0A} {e:TypeId} {size n k:Nat} {p:Option Addr} {cap:Nat} {xs:List Value} (h:i0E H e size (.slice p n cap) n xs) (hk:k≤n):i0E H e size (.slice p k cap) k (xs.take (k*size)):=by
 obtain⟨h1,h2⟩:=h
 have hm:k*size≤n*size:=Nat.mul_le_mul_right _ hk
 refine⟨by rw[List.length_take,h1];omega,?_⟩
 rcases h2 with ⟨h3,h4⟩| ⟨b,o,cap2,cur,h3,h4,h5,h6⟩
 ·left
  cases h3
  obtain rfl:k=0:=by omega
  exact⟨rfl,rfl⟩
 ·right
  cases h3
  exact⟨b,o,cap,cur,rfl,by omega,h5,by rw[←h6,List.take_take,Nat.min_eq_left hm]⟩
theorem y1I {H:b0A} {e:TypeId} {size n k:Nat} {p:Option Addr} {cap:Nat} {xs:List Value} (h:i0E H e size (.slice p n cap) n xs) (hk:k≤n) (h0:0<n):i0E H e size (.slice (a1N p k cap size) (n-k) (cap-k)) (n-k) (xs.drop (k*size)):=by
 obtain⟨h1,h2⟩:=h
 have hm:n*size-k*size=(n-k)*size:=by rw[Nat.sub_mul]
 refine⟨by rw[List.length_drop,h1,hm],?_⟩
 rcases h2 with ⟨h3,h4⟩| ⟨b,o,cap2,cur,h3,h4,h5,h6⟩
 ·omega
 ·right
  cases h3
  unfold a1N
  by_cases hc:cap=k
  ·rw[if_pos hc]
   have hn:n-k=0:=by omega
   refine⟨b,o,cap-k,cur,rfl,by omega,h5,?_⟩
   rw[hn,Nat.zero_mul,List.take_zero,List.drop_eq_nil_of_le]
   rw[h1]
   exact Nat.mul_le_mul_right _ (by omega)
  ·rw[if_neg hc]
   refine⟨b,o+k*size,cap-k,cur,by rw[Option.map_some,i0O],by omega,h5,?_⟩
   rw[←h6,List.drop_take,List.drop_drop,hm]
theorem l1T {α:Type} {f:α→List Value} {size:Nat} (hf: ∀x,(f x).length=size): ∀(l:List α) (i:Nat),i≤l.length→(l.flatMap f).take (i*size)=(l.take i).flatMap f
 |l,0,_=>by simp
 | [],i+1,h=>by simp at h
 |x::l,i+1,h=>by
  rw[List.flatMap_cons,show(i+1)*size=(f x).length+i*size by rw[hf,Nat.succ_mul];omega,List.take_length_add_append,List.take_succ_cons,List.flatMap_cons,l1T hf l i (by simpa using h)]
theorem e1V {α:Type} {f:α→List Value} {size:Nat} (hf: ∀x,(f x).length=size): ∀(l:List α) (i:Nat),i≤l.length→(l.flatMap f).drop (i*size)=(l.drop i).flatMap f
 |l,0,_=>by simp
 | [],i+1,h=>by simp at h
 |x::l,i+1,h=>by
  rw[List.flatMap_cons,show(i+1)*size=(f x).length+i*size by rw[hf,Nat.succ_mul];omega,List.drop_length_add_append,List.drop_succ_cons,e1V hf l i (by simpa using h)]
theorem w2Z {c:Rx} {i:Nat} {lv:Value} :er {c with lv:=lv,l:=c.l.take i++c.l.drop (i+1)} = {er c with l:=(er c).l.eraseIdx i} :=by
 unfold er
 simp only[List.eraseIdx_eq_take_drop_succ,List.map_append,List.map_take,List.map_drop]
theorem v1R (H:b0A) (c:Rx) (id:Int) (hc:c0T H c):a0F prog 75 #[e0R c,.int .i64 id] [b0Z H]
 (b0N (x0X H (g0T (er c) id).1) (n1W (g0T (er c) id).2) (fun x=> [b0Z x.1])):=by
 have hone:=c0H hc
 obtain⟨p,cap,hlv,hcap⟩:=d0Q hc.vols
 have hrow:=hc.vols
 rw[hlv]at hrow
 have hfew:=hc.few
 cases hf:c0O (er c).l id with
 |none=>
  rw[show g0T (er c) id=(er c,5) by unfold g0T;rw[hf]]
  refine en func75 ntmps75 fun R w0=> ?_
  try simp only[e0R,a0H]
  refine go 2 ?_
  refine bx fun b2=> ?_
  refine al fun b4=> ?_
  refine go 5 ?_
  refine a0D (a0L (v:= #[c.lv,.int .i64 c.next,.int .i64 c.bits,.int .i64 c.epoch]) Ag.o rfl (by simp[Value.cells]) (a0G (by simp[Value.cells]))) ?_
  refine cg 1 (r0H hc hf) ?_
  refine go 13 ?_
  refine a0D (a0L (v:= #[c.lv,.int .i64 c.next,.int .i64 c.bits,.int .i64 c.epoch]) Ag.o rfl (by simp[Value.cells]) (a0G (by simp[Value.cells]))) ?_
  refine a0M Sz.o rfl rfl rfl (fun u hu=>hone u (by simpa [a0H] using hu)) (by simp[Value.cells,a0H,a0S]) (a0N (by simp[Value.cells,a0H,a0S])) ?_
  refine go 3 ?_
  exact c0N (x:=((H,c):b0A×Rx)) (g0H hc) idh (RV.agg Ag.o rfl (by simp[a0H]) (by rfl) (RV.tmp rfl RV.nil)) rfl gSp
 |some i=>
  have hil:i<c.l.length:=by have:=t0Z hf;simpa [er] using this
  rw[show g0T (er c) id=({er c with l:=(er c).l.eraseIdx i},0) by unfold g0T;rw[hf]]
  have hto:i0E H 42 6 (.slice p i cap) i ((c.l.take i).flatMap a0S):=by rw[←l1T t0Y c.l i (by omega)];exact k2T hrow (by omega)
  have hfrom:i0E H 42 6 (.slice (a1N p (i+1) cap 6) (c.l.length- (i+1)) (cap- (i+1))) (c.l.length- (i+1)) ((c.l.drop (i+1)).flatMap a0S):=by rw[←e1V t0Y c.l (i+1) (by omega)];exact y1I hrow (by omega) (by omega)
  have hsum:i+(c.l.length- (i+1))=(c.l.take i++c.l.drop (i+1)).length:=by rw[List.length_append,List.length_take,List.length_drop];omega
  refine en func75 ntmps75 fun R w0=> ?_
  try simp only[e0R,a0H]
  refine go 2 ?_
  refine bx fun b2=> ?_
  refine al fun b4=> ?_
  refine go 5 ?_
  refine a0D (a0L (v:= #[c.lv,.int .i64 c.next,.int .i64 c.bits,.int .i64 c.epoch]) Ag.o rfl (by simp[Value.cells]) (a0G (by simp[Value.cells]))) ?_
  refine cg 1 (p0A hc hf) ?_
  refine go 10 ?_
  refine b0R rfl (by simpa using (by omega: ¬((i:Int)<0))) ?_
  refine go 4 ?_
  refine bl fun b14=> ?_
  refine e0K (fun w h=>n0U 6 h) ?_
  refine go 1 ?_
  refine a0D (b0M (v:= .slice p c.l.length cap) Sc.o rfl (by rw[hlv];rfl)) ?_
  refine go 1 ?_
  refine a0D (h1H Tsl.o rfl rfl (by omega)) ?_
  refine(c0Z (news:=(c.l.take i).flatMap a0S) Tsl.o Ttb.o Zr.o rfl rfl rfl gFd (a1U Tsl.o hto gFd (w0T fun x hx=>hc.maps x (List.mem_of_mem_take hx))) (by simp only[maxLen];omega) (by omega) (fun v19 hv19=> ?_))
  refine go 7 ?_
  refine a0D (b0M (v:= .slice p c.l.length cap) Sc.o rfl (by rw[hlv];rfl)) ?_
  refine go 2 ?_
  refine a0D (r1F Tsl.o rfl rfl (by omega) (by omega)) ?_
  refine(c0Z (news:=(c.l.drop (i+1)).flatMap a0S) Tsl.o Ttb.o Zr.o rfl rfl rfl gFd (a1U Tsl.o hfrom gFd (w0T fun x hx=>hc.maps x (List.mem_of_mem_drop hx))) (by simp only[maxLen];omega) (by omega) (fun v26 hv26=> ?_))
  refine go 5 ?_
  rw[List.nil_append,←List.flatMap_append,show 0+((i:Nat):Int).toNat+(c.l.length- (((i:Nat):Int)+1).toNat)=(c.l.take i++c.l.drop (i+1)).length by omega]
  refine s0U (show Fnd _ (b0H 42 6 v26 (c.l.take i++c.l.drop (i+1)).length ((c.l.take i++c.l.drop (i+1)).flatMap a0S)) _ from gFd) (show Fnd _ (b0Z H) _ from gFd) fun H' hs hr2=> ?_
  have hcn:c0T H' {c with lv:=v26,l:=c.l.take i++c.l.drop (i+1)} :=⟨hr2,fun x hx=>(hc.maps x (by rcases List.mem_append.1 hx with h|h;{exact List.mem_of_mem_take h};{exact List.mem_of_mem_drop h})).more hs,by(show(c.l.take i++c.l.drop (i+1)).length≤1000);omega⟩
  refine go 1 ?_
  refine a0D (a0L (v:= #[v26,.int .i64 c.next,.int .i64 c.bits,.int .i64 c.epoch]) Ag.o rfl (by simp[Value.cells]) (a0G (by simp[Value.cells]))) ?_
  refine a0M Sz.o rfl rfl rfl (fun u hu=>c0H hcn u (by simpa [a0H] using hu)) (by simp[Value.cells,a0H,a0S]) (a0N (by simp[Value.cells,a0H,a0S])) ?_
  refine go 3 ?_
  exact c0N (x:=((H',{c with lv:=v26,l:=c.l.take i++c.l.drop (i+1)}):b0A×Rx)) ⟨hs,hcn,w2Z⟩ idh (RV.agg Ag.o rfl (by simp[a0H]) (by rfl) (RV.tmp rfl RV.nil)) rfl gSp
theorem y0R (v:Vx) (at_ n:Int) (hs:0≤v.v.size∧v.v.size≤2048):a0F prog 102 #[z0H v,.int .i64 at_,.int .i64 n] [] (a0T (.bool (m0B v.v at_ n)) []):=by
 refine en func102 ntmps102 fun R w0=> ?_
 try simp only[z0H,a0S]
 refine go 2 ?_
 refine bx fun b3=> ?_
 refine go 4 ?_
 by_cases h1:at_<0
 ·refine go 24 ?_
  exact rG (hu:=(by rw[show m0B v.v at_ n=true from decide_eq_true (.inl h1)]))
 ·by_cases h2:n<0
  ·refine go 24 ?_
   exact rG (hu:=(by rw[show m0B v.v at_ n=true from decide_eq_true (.inr (.inl h2))]))
  ·by_cases h3:v.v.size<at_
   ·refine go 24 ?_
    exact rG (hu:=(by rw[show m0B v.v at_ n=true from decide_eq_true (.inr (.inr (.inl h3)))]))
   ·refine go 24 ?_
    exact rG (hu:=(by rw[show m0B v.v at_ n=decide (v.v.size-at_<n)from decide_eq_decide.2 ⟨fun h=>by omega,fun h=>by omega⟩]))
theorem l1U {m:List Lf} (hm:m0D m) (at_:Nat): ∀k,(k0L m at_ k).length=k*64
 |0=>rfl
 |k+1=>by
  rw[k0L,List.length_append,l1U hm at_ k,List.length_take,List.length_drop,hm.get_len];omega
theorem q1N (H:b0A) (v:Vx) (at_ n:Nat) (hv:m0Z H v) (hs:at_+n≤4096):a0F prog 103 #[z0H v,.int .i64 at_,.int .i64 n] [b0Z H] (a0T (b0B (k0L v.v.m at_ n)) [b0Z H]):=by
 obtain⟨pm,capm,hmv,hcm⟩:=d0Q hv.1
 have hml:=hv.2.len
 refine en func103 ntmps103 fun R w0=> ?_
 try simp only[z0H,a0S]
 refine go 2 ?_
 refine bx fun b3=> ?_
 refine go 16 ?_
 refine a0V (X:= {k:Nat // k≤n}) (fun y=> [(1,.int .i64 at_),(2,.int .i64 n),(3,.pointer (some ⟨b3,0,none⟩)),(7,b0B (k0L v.v.m at_ y.1)),(8,.int .i64 ((at_+y.1:Nat):Int))]) (fun y=> [pts b3 (.cells #[.int .i64 v.v.id,.int .i64 v.v.parent,.bool v.v.only,.int .i64 v.v.size,.int .i64 v.v.born,v.mv] 42 (0,0)),b0Z H,R]) (fun y=>n-y.1) ⟨0,Nat.zero_le _⟩ gSu gSp ?_
 rintro⟨k,hk⟩ m0 hm0
 try simp only at hm0
 try dsimp only
 skip
 refine go 10 ?_
 refine a0P rfl (fun hb14=> ?_) (fun hb14=> ?_)
 ·have hkl:k<n:=by have:=of_decide_eq_true hb14;omega
  have hgl:=hv.2.get_len (((at_+k)/4:Nat):Int)
  have hrl:=l1U hv.2 at_ k
  refine go 10 ?_
  rw[show((at_+k:Nat):Int)/4=(((at_+k)/4:Nat):Int) by omega]
  refine cg 0 (g1V H v.mv v.v.m (((at_+k)/4:Nat):Int) hv.1 (by omega)) ?_
  refine go 7 ?_
  refine a0D (e1Y (lo:=(((at_+k)%4*64:Nat):Int)) (hi:=(((at_+k)%4*64+64:Nat):Int)) Tst.o rfl (by(show some _=some _);congr 2<;>omega) (by(show some _=some _);congr 2<;>omega) (by rw[b0F,hgl];omega)) ?_
  rw[k1O,show((((at_+k)%4*64+64:Nat):Int)).toNat=(at_+k)%4*64+64 from rfl,show((((at_+k)%4*64:Nat):Int)).toNat=(at_+k)%4*64 from rfl,List.drop_take,show(at_+k)%4*64+64- (at_+k)%4*64=64 by omega]
  refine a0D (g0Y rfl rfl (by rw[b0F,b0F,hrl,List.length_take];omega)) ?_
  rw[←h0B,show k0L v.v.m at_ k++((f0M ((at_+k)/4:Nat) v.v.m).drop ((at_+k)%4*64)).take 64=k0L v.v.m at_ (k+1)from rfl]
  refine go 8 ?_
  exact rd idh (⟨k+1,hkl⟩)
 ·obtain rfl:k=n:=by have:=of_decide_eq_false hb14;omega
  refine go 8 ?_
  exact rG
def bytE (e:Int) (b:B):Value:= .tuple #[b0B b,.int .i64 e]
abbrev y0S (P:Rp):Prop:= ∀v∈P.l,0≤v.size∧v.size≤2048
theorem y0S.at_ {c:Rx} (h:y0S (er c)) {i:Nat} (hi:i<c.l.length):0≤c.l[i].v.size∧c.l[i].v.size≤2048:=h _ (by unfold er;exact List.mem_map.2 ⟨_,List.getElem_mem hi,rfl⟩)
theorem j1B {v:Vp} {at_ n:Int} (h:m0B v at_ n=false):0≤at_∧0≤n∧at_≤v.size∧at_+n≤v.size:=by
 have:=of_decide_eq_false h
 omega
theorem l1V (H:b0A) (c:Rx) (id at_ n:Int) (hc:c0T H c) (hsz:y0S (er c)):a0F prog 46 #[e0R c,.int .i64 id,.int .i64 at_,.int .i64 n] [b0Z H]
 (a0T (bytE (m0C (er c) id at_ n).2 (m0C (er c) id at_ n).1) [b0Z H]):=by
 obtain⟨p,cap,hlv,hcap⟩:=d0Q hc.vols
 have hrow:=hc.vols
 rw[hlv]at hrow
 have hfew:=hc.few
 cases hf:c0O (er c).l id with
 |none=>
  rw[show m0C (er c) id at_ n=([],5) by unfold m0C;rw[hf]]
  refine en func46 ntmps46 fun R w0=> ?_
  try simp only[e0R,a0H]
  refine go 2 ?_
  refine bx fun b4=> ?_
  refine go 6 ?_
  refine a0D (a0L (v:= #[c.lv,.int .i64 c.next,.int .i64 c.bits,.int .i64 c.epoch]) Ag.o rfl (by simp[Value.cells]) (a0G (by simp[Value.cells]))) ?_
  refine cg 1 (r0H hc hf) ?_
  refine go 17 ?_
  exact rG
 |some i=>
  have hil:i<c.l.length:=by have:=t0Z hf;simpa [er] using this
  obtain⟨b,o,cap',cur,hv,hcp,hmem,hcut,hlen⟩:=g0G hrow (by omega)
  cases hv
  have hcu:(cur.drop (o+i*6)).take 6=a0S c.l[i]:=(h0R hcut hil).trans (m0V c.l hil)
  have hvi:=hc.maps _ (List.getElem_mem hil)
  have hsi:=hsz.at_ hil
  by_cases hb:m0B c.l[i].v at_ n=true
  ·rw[show m0C (er c) id at_ n=([],6) by unfold m0C;rw[hf];simp only[n0C hil,hb,if_true]]
   refine en func46 ntmps46 fun R w0=> ?_
   try simp only[e0R,a0H]
   refine go 2 ?_
   refine bx fun b4=> ?_
   refine go 6 ?_
   refine a0D (a0L (v:= #[c.lv,.int .i64 c.next,.int .i64 c.bits,.int .i64 c.epoch]) Ag.o rfl (by simp[Value.cells]) (a0G (by simp[Value.cells]))) ?_
   refine cg 1 (p0A hc hf) ?_
   refine go 10 ?_
   refine b0R rfl (by simpa using (by omega: ¬((i:Int)<0))) ?_
   refine go 6 ?_
   refine a0D (b0M (v:= .slice (some ⟨b,o,none⟩) c.l.length cap) Sc.o rfl (by rw[hlv];rfl)) ?_
   refine go 2 ?_
   refine a0D (e0U (vs:=a0S c.l[i]) Ag.o rfl gFd hmem hcu rfl (by decide)) ?_
   refine cg 2 (y0R c.l[i] at_ n hsi) ?_
   refine go 9 ?_
   exact rG
  ·replace hb:m0B c.l[i].v at_ n=false:=by simpa using hb
   have hgd:=j1B hb
   rw[show m0C (er c) id at_ n=(k0L c.l[i].v.m at_.toNat n.toNat,0) by unfold m0C;rw[hf];simp only[n0C hil,hb,if_false];rfl]
   refine en func46 ntmps46 fun R w0=> ?_
   try simp only[e0R,a0H]
   refine go 2 ?_
   refine bx fun b4=> ?_
   refine go 6 ?_
   refine a0D (a0L (v:= #[c.lv,.int .i64 c.next,.int .i64 c.bits,.int .i64 c.epoch]) Ag.o rfl (by simp[Value.cells]) (a0G (by simp[Value.cells]))) ?_
   refine cg 1 (p0A hc hf) ?_
   refine go 10 ?_
   refine b0R rfl (by simpa using (by omega: ¬((i:Int)<0))) ?_
   refine go 6 ?_
   refine a0D (b0M (v:= .slice (some ⟨b,o,none⟩) c.l.length cap) Sc.o rfl (by rw[hlv];rfl)) ?_
   refine go 2 ?_
   refine a0D (e0U (vs:=a0S c.l[i]) Ag.o rfl gFd hmem hcu rfl (by decide)) ?_
   refine cg 2 (y0R c.l[i] at_ n hsi) ?_
   refine go 8 ?_
   refine a0D (b0M (v:= .slice (some ⟨b,o,none⟩) c.l.length cap) Sc.o rfl (by rw[hlv];rfl)) ?_
   refine go 2 ?_
   refine a0D (e0U (vs:=a0S c.l[i]) Ag.o rfl gFd hmem hcu rfl (by decide)) ?_
   refine cg 2 ((by have h:=q1N H c.l[i] at_.toNat n.toNat hvi (by omega);rw[Int.toNat_of_nonneg hgd.1,Int.toNat_of_nonneg hgd.2.1]at h;exact h)) ?_
   refine go 4 ?_
   exact rG
abbrev cl1 (bits:Nat) (data:B) (x:Lf):Bool:=decide (x.2≠data∧key bits (Sha.sum x.2)=key bits (Sha.sum data))
abbrev cl2 (bits:Nat) (data:B) (v:Vx):Bool:=v.v.m.any (cl1 bits data)
theorem k2U (c:Rx) (data:B):p0C (er c) data=c.l.any (cl2 c.bits data):=by
 unfold p0C er cl2;simp only[List.any_map];rfl
theorem j1C {α:Type} {p:α→Bool} {l:List α} {i:Nat} (h:i<l.length) (hz:(l.take i).any p=false) (hp:p l[i]=false):(l.take (i+1)).any p=false:=by
 rw[List.take_succ,List.getElem?_eq_getElem h,List.any_append,hz];simp[hp]
theorem b2F {α:Type} {p:α→Bool} {l:List α} {i:Nat} (h:i<l.length) (hp:p l[i]=true):l.any p=true:=List.any_eq_true.2 ⟨_,List.getElem_mem h,hp⟩
theorem g1Y (H:b0A) (c:Rx) (data:B) (hc:c0T H c) (hd:data.length≤100000) (hbits:c.bits≤256):a0F prog 174 #[e0R c,b0B data] [b0Z H] (a0T (.bool (p0C (er c) data)) [b0Z H]):=by
 rw[k2U]
 obtain⟨p,cap,hlv,hcap⟩:=d0Q hc.vols
 have hrow:=hc.vols
 rw[hlv]at hrow
 have hfew:=hc.few
 refine en func174 ntmps174 fun R w0=> ?_
 try simp only[e0R,a0H]
 refine go 2 ?_
 refine bx fun b2=> ?_
 refine go 8 ?_
 refine al fun b5=> ?_
 refine a0M (vs:= #[.slice none 0 0,.int .i64 c.bits]) Sz.o rfl rfl rfl (by simp[Value.oneCell']) (by simp[Value.cells]) (a0N (by simp[Value.cells])) ?_
 refine go 4 ?_
 refine a0D (a0L (v:= #[.slice none 0 0,.int .i64 c.bits]) Ag.o rfl (by simp[Value.cells]) (a0G (by simp[Value.cells]))) ?_
 refine cg 1 (l1K data c.bits hd hbits) ?_
 refine go 7 ?_
 refine a0D (b0M (v:= .slice p c.l.length cap) Sc.o rfl (by rw[hlv];rfl)) ?_
 refine go 5 ?_
 refine a0V (X:= {i:Nat // i≤c.l.length∧(c.l.take i).any (cl2 c.bits data)=false}) (fun y=> [(1,b0B data),(5,.pointer (some ⟨b5,0,none⟩)),(6,b0B (key c.bits (Sha.sum data))),(18,.slice p c.l.length cap),(19,.int .i64 c.l.length),(20,.int .i64 y.1)]) (fun y=> [pts b5 (.cells #[.slice none 0 0,.int .i64 c.bits] 277 (0,0)),b0Z H,R]) (fun y=>c.l.length-y.1) ⟨0,Nat.zero_le _,rfl⟩ gSu gSp ?_
 rintro⟨i,hi,hz⟩ m0 hm0
 try simp only at hm0
 try dsimp only
 skip
 refine go 6 ?_
 refine a0P rfl (fun hb21=> ?_) (fun hb21=> ?_)
 ·have hil:i<c.l.length:=by have:=of_decide_eq_true hb21;omega
  obtain⟨b,o,cap',cur,hv,hcp,hmem,hcut,hlen⟩:=g0G hrow (by omega)
  cases hv
  have hcu:(cur.drop (o+i*6)).take 6=a0S c.l[i]:=(h0R hcut hil).trans (m0V c.l hil)
  have hvi:=hc.maps _ (List.getElem_mem hil)
  obtain⟨pm,capm,hmv,hcm⟩:=d0Q hvi.1
  have hrm:=hvi.1
  rw[hmv]at hrm
  have hml:=hvi.2.len
  refine go 7 ?_
  refine a0D (e0U (vs:=a0S c.l[i]) Ag.o rfl gFd hmem hcu rfl (by decide)) ?_
  refine al fun b8=> ?_
  refine a0M Sz.o rfl rfl rfl (fun u hu=>q0Q hvi u (by simpa using hu)) (by simp[Value.cells,a0H,a0S]) (a0N (by simp[Value.cells,a0H,a0S])) ?_
  refine go 5 ?_
  refine a0D (b0M (v:= .slice pm c.l[i].v.m.length capm) Sc.o rfl (by rw[←hmv];rfl)) ?_
  refine go 5 ?_
  refine a0V (X:= {j:Nat // j≤c.l[i].v.m.length∧(c.l[i].v.m.take j).any (cl1 c.bits data)=false}) (fun y=> [(1,b0B data),(5,.pointer (some ⟨b5,0,none⟩)),(6,b0B (key c.bits (Sha.sum data))),(18,.slice (some ⟨b,o,none⟩) c.l.length cap),(19,.int .i64 c.l.length),(20,.int .i64 i),(25,.slice pm c.l[i].v.m.length capm),(26,.int .i64 c.l[i].v.m.length),(27,.int .i64 y.1)]) (fun y=> [pts b5 (.cells #[.slice none 0 0,.int .i64 c.bits] 277 (0,0)),b0Z H,R]) (fun y=>c.l[i].v.m.length-y.1) ⟨0,Nat.zero_le _,rfl⟩ gSu gSp ?_
  rintro⟨j,hj,hy⟩ m2 hm2
  try simp only at hm2
  try dsimp only
  skip
  refine go 6 ?_
  refine a0P rfl (fun hb28=> ?_) (fun hb28=> ?_)
  ·have hjl:j<c.l[i].v.m.length:=by have:=of_decide_eq_true hb28;omega
   obtain⟨bm,om,capm',curm,hv2,hcp2,hmem2,hcut2,hlen2⟩:=g0G hrm (by omega)
   cases hv2
   have hcu2:(curm.drop (om+j*2)).take 2=lfC c.l[i].v.m[j]:=(h0R hcut2 hjl).trans (q0E (f:=lfC) (size:=2) (fun _=>rfl) c.l[i].v.m hjl)
   have hll:c.l[i].v.m[j].2.length=256:=(hvi.2.in_ _ (List.getElem_mem hjl)).2.2
   refine go 7 ?_
   refine a0D (e0U (vs:=lfC c.l[i].v.m[j]) Ag.o rfl gFd hmem2 hcu2 rfl (by decide)) ?_
   refine al fun b10=> ?_
   refine go 4 ?_
   by_cases hne:c.l[i].v.m[j].2=data
   ·refine go 4 ?_
    refine a0D (h0X rfl rfl) ?_
    refine go 1 ?_
    refine c0J rfl (wg rfl rfl rfl (wTF (by simpa using hne))) ?_
    refine c0J rfl (wg rfl rfl rfl (wTF (by simpa using hne))) ?_
    refine c0J rfl (wg rfl rfl rfl (wTF (by simpa using hne))) ?_
    refine c0J rfl (wg rfl rfl rfl (wTF (by simpa using hne))) ?_
    refine c0J rfl (wg rfl rfl rfl (wTF (by simpa using hne))) ?_
    refine c0J rfl (wg rfl rfl rfl (wTF (by simpa using hne))) ?_
    refine a0D (i0W rfl (by simpa using hne) rfl) ?_
    refine go 9 ?_
    exact rd idh (⟨j+1,hjl,j1C hjl hy (decide_eq_false fun h=>h.1 hne)⟩)
   ·refine go 4 ?_
    refine a0D (h0X rfl rfl) ?_
    refine go 1 ?_
    refine c0R (a0L (v:= #[.slice none 0 0,.int .i64 c.bits]) Ag.o rfl (by simp[Value.cells]) (a0G (by simp[Value.cells]))) (wg rfl rfl rfl (wTT (by simpa using hne))) ?_
    refine c0R (q2A Fl.o rfl) (wg rfl rfl rfl (wTT (by simpa using hne))) ?_
    refine c0R (b0M Sc.o rfl (by rfl)) (wg rfl rfl rfl (wTT (by simpa using hne))) ?_
    refine s0A (wg rfl rfl rfl (wTT (by simpa using hne))) ?_
    refine cg 0 (l1K c.l[i].v.m[j].2 c.bits (by omega) hbits) ?_
    refine c0R (d0V rfl) (wg rfl rfl rfl (wTT (by simpa using hne))) ?_
    refine c0R (r0Z rfl rfl) (wg rfl rfl rfl (wTT (by simpa using hne))) ?_
    refine a0D (i0B rfl (by simpa using hne) rfl) ?_
    refine go 2 ?_
    refine a0P rfl (fun hb42=> ?_) (fun hb42=> ?_)
    ·have he:key c.bits (Sha.sum c.l[i].v.m[j].2)=key c.bits (Sha.sum data):=by simpa [c0C] using hb42
     refine go 5 ?_
     exact rG (hu:=(by rw[b2F hil (b2F hjl (decide_eq_true ⟨hne,he⟩))]))
    ·have he: ¬key c.bits (Sha.sum c.l[i].v.m[j].2)=key c.bits (Sha.sum data):=by simpa [c0C] using hb42
     refine go 6 ?_
     exact rd idh (⟨j+1,hjl,j1C hjl hy (decide_eq_false fun h=>he h.2)⟩)
  ·obtain rfl:j=c.l[i].v.m.length:=by have:=of_decide_eq_false hb28;omega
   rw[List.take_length]at hy
   refine go 6 ?_
   exact rd idh (⟨i+1,hil,j1C hil hz hy⟩)
 ·obtain rfl:i=c.l.length:=by have:=of_decide_eq_false hb21;omega
  rw[List.take_length]at hz
  refine go 7 ?_
  exact rG (hu:=(by rw[hz]))
end Go.Proofs.Q

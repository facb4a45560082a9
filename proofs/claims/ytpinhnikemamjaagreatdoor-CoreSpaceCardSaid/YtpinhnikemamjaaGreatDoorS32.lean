/- Part of the proof; no statement of its own. -/
import Derived.Test.YtpinhnikemamjaaGreatDoorS23
import Derived.Test.YtpinhnikemamjaaGreatDoorS31
import Derived.Test.YtpinhnikemamjaaGreatDoorS17
import Derived.Test.YtpinhnikemamjaaGreatDoorS28
import Derived.Test.YtpinhnikemamjaaGreatDoorS18
set_option linter.all false
set_option maxRecDepth 4000
set_option maxHeartbeats 4000000
attribute [local irreducible] Go.Sl.a0P Go.Sl.OW Go.Sl.CW Go.Sl.OS Go.Sl.OM Go.Sl.OMf Go.Sl.KM
namespace Go.Proofs.Q
open Go.Sl Go.Sb Tryz
abbrev y0R (H:b0B) (P:Rp) (x:b0B×Rx):Prop:=(∀p∈H,p∈x.1)∧c0Z x.1 x.2∧er x.2=P
theorem y2X (c:Rx) (lv:Value) (i:Nat) (v:Vx):er {c with lv:=lv,l:=c.l.set i v} = {er c with l:=(er c).l.set i v.v} :=by
 unfold er;simp only[List.map_set]
theorem r0D {H:b0B} {v:Vx} (hv:n0K H v): ∀u∈a0S v,u.oneCell'=true:=fun u hu=>x0N (l:= [v]) (fun x hx=>by rw[List.mem_singleton.1 hx];exact hv) u (by simpa using hu)
theorem y2Y {H:b0B} {l:List Vx} {i:Nat} {v:Vx} (h: ∀x∈l,n0K H x) (hv:n0K H v): ∀x∈l.set i v,n0K H x:=fun x hx=>by
 rcases List.mem_or_eq_of_mem_set hx with h1|rfl
 ·exact h x h1
 ·exact hv
theorem d1N (H:b0B) (c:Rx) (i:Nat) (v:Vx) (hc:c0Z H c) (hv:n0K H v) (hi:i<c.l.length):a0G prog 126 #[e0W c,.int .i64 i,a1G v] [c0B H]
 (b0P (y0R H {er c with l:=(er c).l.set i v.v}) (fun x=>e0W x.2) (fun x=> [c0B x.1])):=by
 obtain⟨p,cap,hlv,hcap⟩:=d0W hc.vols;have hfew:=hc.few;have hrow:=hc.vols;rw[hlv]at hrow;have hfl:=i0J u0W c.l;have hi6:0+((i:Nat):Int).toNat*6+6≤(c.l.flatMap a0S).length:=by rw[hfl];omega
 refine en func126 ntmps126 fun R w0=> ?_
 try simp only[e0W,a0J,a1G]
 rw[hlv];refine go 2 ?_;refine bx fun b3=> ?_;refine bx fun b5=> ?_;refine al fun b6=> ?_;refine go 4 ?_;refine bl fun b7=> ?_;refine e0X (fun w h=>o0K 6 h) ?_;refine go 2 ?_;refine(d0E (news:=c.l.flatMap a0S) Tsl.o Ttb.o Zr.o rfl rfl rfl gFd (b1S Tsl.o hrow gFd (x0N hc.maps)) (by simp only[maxLen];omega) (by omega) (fun v10 hv10=> ?_));rw[show 0+c.l.length=c.l.length from Nat.zero_add _,List.nil_append];refine go 5 ?_;refine i0T (e:=42) gFd (by omega) fun bw capw hvw hcapw=> ?_;refine go 1 ?_;subst hvw;refine go 5 ?_;refine n1X (vs:=a0S v) (xs':=(c.l.set i v).flatMap a0S) Sz.o rfl rfl rfl (r0D hv) gFd hi6 (by rw[show 0+((i:Nat):Int).toNat*6=i*6 by omega];exact p1O u0W v hi) ?_;refine go 5 ?_;skip;refine(a0M Sz.o rfl rfl (by first|rfl|simp) (by simp[Value.oneCell']) (by simp[Value.cells]) (by simp[j0I,Value.cells]<;>rfl) ?_);refine go 2 ?_;refine t0J (show Fnd _ (b0I 42 6 (.slice (some ⟨bw,0,none⟩) c.l.length capw) c.l.length ((c.l.set i v).flatMap a0S)) _ from gFd) (show Fnd _ (c0B H) _ from gFd) fun H' hs hr=> ?_;exact c0T (x:=((H',{c with lv:= .slice (some ⟨bw,0,none⟩) c.l.length capw,l:=c.l.set i v}):b0B×Rx)) ⟨hs,⟨(by show i0V _ _ _ _ (c.l.set i v).length _;rw[List.length_set];exact hr),fun x hx=>y2Y (fun x hx=>(hc.maps x hx).more hs) (hv.more hs) x hx,by simpa using hfew⟩,y2X c _ i v⟩ idh (RV.agg Ag.o rfl (by simp) (by rfl) RV.nil) rfl gSp
def r2T (e n:Int) (x:b0B×Rx):Value:= .tuple #[e0W x.2,.int .i64 n,.int .i64 e]
def p1I (e:Int) (x:b0B×Rx):Value:= .tuple #[e0W x.2,.int .i64 e]
theorem m2Z (c:Rx):(er c).l.length=c.l.length:=by simp[er]
theorem g0W {H:b0B} {c:Rx} (hc:c0Z H c):y0R H (er c) (H,c):=⟨fun _ h=>h,hc,rfl⟩
theorem y2Z (lv:Value) (l:List Vx) (n b e) (v:Vx) (lv2 n2):er {lv:=lv,l:=l++ [v],next:=n2,bits:=b,epoch:=e} = {er {lv:=lv2,l:=l,next:=n,bits:=b,epoch:=e} with l:=(er {lv:=lv2,l:=l,next:=n,bits:=b,epoch:=e}).l++ [v.v],next:=n2} :=by
 unfold er;simp only[List.map_append,List.map_cons,List.map_nil]
theorem r1M (H:b0B) (c:Rx) (v:Vx) (hc:c0Z H c) (hv:n0K H v) (hn:0≤c.next∧c.next<1000000000):a0G prog 100 #[e0W c,a1G v] [c0B H]
 (b0P (y0R H (g0M (er c) v.v).1) (r2T (g0M (er c) v.v).2.2 (g0M (er c) v.v).2.1) (fun x=> [c0B x.1])):=by
 obtain⟨p,cap,hlv,hcap⟩:=d0W hc.vols;obtain⟨lv,l,next,bits,epoch⟩:=c;dsimp only at hlv hn hcap;subst hlv;have hfew:=hc.few;have hrow:=hc.vols;dsimp only at hfew hrow;have hfl:=i0J u0W l;by_cases h15:15<l.length
 ·rw[show g0M (er ⟨.slice p l.length cap,l,next,bits,epoch⟩) v.v=(er ⟨.slice p l.length cap,l,next,bits,epoch⟩,0,13) by unfold g0M;rw[if_pos (by rw[m2Z];exact h15)]];refine en func100 ntmps100 fun R w0=> ?_
  try simp only[e0W,a0J,a1G]
  refine go 2 ?_;refine bx fun b2=> ?_;refine bx fun b3=> ?_;refine al fun b4=> ?_;refine go 13 ?_;refine d0P rfl (by simpa using (by omega:(15:Int)<(l.length:Int))) ?_;refine go 2 ?_;refine a0D (a0K (v:= #[.slice p l.length cap,.int .i64 next,.int .i64 bits,.int .i64 epoch]) Ag.o rfl (by simp[Value.cells]) (a0I (by simp[Value.cells]))) ?_;refine(a0M Sz.o rfl rfl (by first|rfl|simp) (by simp[Value.oneCell']) (by simp[Value.cells]) (by simp[j0I,Value.cells]<;>rfl) ?_);refine go 4 ?_;exact c0T (x:=((H,⟨.slice p l.length cap,l,next,bits,epoch⟩):b0B×Rx)) (g0W hc) idh (RV.agg Ag.o rfl (by simp) (by rfl) (RV.tmp rfl (RV.tmp rfl RV.nil))) rfl gSp
 ·have hr:g0M (er ⟨.slice p l.length cap,l,next,bits,epoch⟩) v.v=({er ⟨.slice p l.length cap,l,next,bits,epoch⟩with l:=(er ⟨.slice p l.length cap,l,next,bits,epoch⟩).l++ [{v.v with id:=next,born:=epoch}],next:=next+1},next,0):=by unfold g0M;rw[if_neg (by rw[m2Z];exact h15)];rfl
  obtain⟨v2,hv2⟩: ∃v2:Vx,v2= {v with v:= {v.v with id:=next,born:=epoch}} :=⟨_,rfl⟩;have hvk:n0K H v2:=by rw[hv2];exact hv
  have hvc:a0S v2= [.int .i64 next,.int .i64 v.v.parent,.bool v.v.only,.int .i64 v.v.size,.int .i64 epoch,v.mv]:=by rw[hv2];rfl
  rw[hr];refine en func100 ntmps100 fun R w0=> ?_
  try simp only[e0W,a0J,a1G,a0S]
  refine go 2 ?_;refine bx fun b2=> ?_;refine bx fun b3=> ?_;refine al fun b4=> ?_;refine go 13 ?_;refine b0S rfl (by simpa using (by omega: ¬(15:Int)<(l.length:Int))) ?_;refine go 2 ?_;refine r0I ([(2,.pointer (some ⟨b2,0,none⟩)),(3,.pointer (some ⟨b3,0,none⟩)),(4,.pointer (some ⟨b4,0,none⟩))]) ([pts b2 (.cells #[.slice p l.length cap,.int .i64 next,.int .i64 bits,.int .i64 epoch] 34 (0,0)),pts b3 (.cells #[.int .i64 next,.int .i64 v.v.parent,.bool v.v.only,.int .i64 v.v.size,.int .i64 epoch,v.mv] 42 (0,0)),pts b4 (.cells #[.slice none 0 0,.int .i64 0,.int .i64 0,.int .i64 0] 34 (0,0)),c0B H,R]) ?_ ?_
  ·refine mx (.r 0 5 (.hard 5 (.soft 6 (.hard 7 .done)))) [pts b2 (.cells #[.slice p l.length cap,.int .i64 next,.int .i64 bits,.int .i64 epoch] 34 (0,0))] ?_;refine go 15 ?_;exact h0W idh gSu gSp
  refine go 10 ?_;refine v0O 8 (by rfl) (.soft 1 (.soft 2 (.soft 4 (.float 5 (.hard 0 (.hard 3 (.res (.hard 6 (.soft 7 .done))))))))) [pts b2 (.cells #[.slice p l.length cap,.int .i64 (next+1),.int .i64 bits,.int .i64 epoch] 34 (0,0)),pts b3 (.cells #[.int .i64 next,.int .i64 v.v.parent,.bool v.v.only,.int .i64 v.v.size,.int .i64 epoch,v.mv] 42 (0,0))] Fol.o (by kernel_rfl) (by repeat (first|with_reducible exact b0T.bp|with_reducible apply b0T.then|with_reducible apply b0T.inBlock)) gSp ?_;simp only[List.take_succ_cons,List.take_zero];refine go 2 ?_;refine h0L rfl (a0K (v:= #[.int .i64 next,.int .i64 v.v.parent,.bool v.v.only,.int .i64 v.v.size,.int .i64 epoch,v.mv]) Ag.o rfl (by simp[Value.cells]) (a0I (by simp[Value.cells]))) ?_;refine t0F (e0:= [(26,_)]) rfl gSu (fun _ _ _=>rfl) Tsl.o Zr.o rfl rfl rfl (by simp[m0O,r0L,Value.cells]<;>rfl) rfl ?_;refine b0Y rfl (fun hok EE FF=> ?_);refine ns ?_;refine bl fun b22=> ?_;refine e0X (fun w h=>o0K 6 h) ?_;refine go 1 ?_;refine fn (E:=EE) (F:=FF) (hok.put rfl) ?_;refine b0Y rfl (fun hok EE FF=> ?_);refine ns ?_;refine(d0E (news:=l.flatMap a0S) Tsl.o Ttb.o Zr.o rfl rfl rfl gFd (b1S Tsl.o hrow gFd (x0N hc.maps)) (by simp only[maxLen];omega) (by omega) (fun v25 hv25=> ?_));refine go 1 ?_;refine fn (E:=EE) (F:=FF) (hok.put rfl) ?_;refine l0Y (fun b27=> ?_);dsimp only;refine b0Y rfl (fun hok EE FF=> ?_);refine ns ?_;refine(d0E (news:=a0S v2) Tsl.o Ttb.o Zr.o rfl rfl rfl gFd (f0I Tsl.o (by rw[hvc];rfl) (by rw[hvc];rfl) (r0D hvk)) (by simp only[maxLen];omega) (by omega) (fun v28 hv28=> ?_));refine go 1 ?_;refine fn (E:=EE) (F:=FF) (hok.put rfl) ?_;refine go 2 ?_;refine a1K ?_;refine go 4 ?_;refine i0T (e:=42) gFd (by omega) fun bw capw hvw hcapw=> ?_;subst hvw;rw[show 0+l.length=l.length from Nat.zero_add _];refine mx (.r 0 3 (.hard 3 (.r 4 2 .done))) [pts b2 (.cells #[.slice (some ⟨bw,0,none⟩) (l.length+1) capw,.int .i64 (next+1),.int .i64 bits,.int .i64 epoch] 34 (0,0)),pts b3 (.cells #[.int .i64 next,.int .i64 v.v.parent,.bool v.v.only,.int .i64 v.v.size,.int .i64 epoch,v.mv] 42 (0,0))] ?_;refine d0A rfl (a0K (v:= #[.slice (some ⟨bw,0,none⟩) (l.length+1) capw,.int .i64 (next+1),.int .i64 bits,.int .i64 epoch]) Ag.o rfl (by simp[Value.cells]) (a0I (by simp[Value.cells]))) ?_;refine go 3 ?_;refine(a0M Sz.o rfl rfl (by first|rfl|simp) (by simp[Value.oneCell']) (by simp[Value.cells]) (by simp[j0I,Value.cells]<;>rfl) ?_);refine go 6 ?_;refine t0J (show Fnd _ (b0I 42 6 (.slice (some ⟨bw,0,none⟩) (l.length+1) capw) (l.length+1) (l.flatMap a0S++a0S v2)) _ from gFd) (show Fnd _ (c0B H) _ from gFd) fun H' hs hr2=> ?_;exact c0T (x:=((H',⟨.slice (some ⟨bw,0,none⟩) (l.length+1) capw,l++ [v2],next+1,bits,epoch⟩):b0B×Rx)) ⟨hs,⟨(by show i0V _ _ _ _ (l++ [v2]).length _;rw[List.length_append,List.flatMap_append,List.flatMap_singleton];exact hr2),fun x hx=>by rcases List.mem_append.1 hx with h|h;{exact(hc.maps x h).more hs};{rw[List.mem_singleton.1 h];exact hvk.more hs},by simp;omega⟩,by rw[hv2];exact y2Z _ l _ _ _ _ _ _⟩ idh (RV.agg Ag.o rfl (by simp) (by rfl) (RV.tmp rfl (RV.tmp rfl RV.nil))) rfl gSp
theorem c0K {H:b0B} {c:Rx} (hc:c0Z H c): ∀u∈a0J c,u.oneCell'=true:=fun u hu=>by
 simp only[a0J,List.mem_cons,List.not_mem_nil,or_false]at hu;rcases hu with rfl|rfl|rfl|rfl
 ·exact hc.vols.one
 ·rfl
 ·rfl
 ·rfl
theorem p0Q {H:b0B} {c:Rx} {id:Int} {i:Nat} (hc:c0Z H c) (h:c0Q (er c).l id=some i):a0G prog 101 #[e0W c,.int .i64 id] [c0B H] (a0T (.int .i64 (i:Int)) [c0B H]):=by
 have:=m1T H c id hc;unfold e1O at this;rw[h]at this;exact this
theorem r0V {H:b0B} {c:Rx} {id:Int} (hc:c0Z H c) (h:c0Q (er c).l id=none):a0G prog 101 #[e0W c,.int .i64 id] [c0B H] (a0T (.int .i64 (-1)) [c0B H]):=by
 have:=m1T H c id hc;unfold e1O at this;rw[h]at this;exact this
theorem n0Q {c:Rx} {i:Nat} (h:i<c.l.length):(er c).l.getD i v0=c.l[i].v:=by
 rw[List.getD_eq_getElem?_getD,List.getElem?_eq_getElem (by simpa [er] using h)];simp[er]
theorem r2U (H:b0B) (s:Int):n0K H {v:= {v0 with size:=s},mv:= .slice none 0 0} :=⟨l1D H _ 2,p1Y⟩
theorem x1I (H:b0B) (c:Rx) (size:Int) (hc:c0Z H c) (hn:0≤c.next∧c.next<1000000000):a0G prog 42 #[e0W c,.int .i64 size] [c0B H]
 (b0P (y0R H (e0R (er c) size).1) (r2T (e0R (er c) size).2.2 (e0R (er c) size).2.1) (fun x=> [c0B x.1])):=by
 have hone:=c0K hc;by_cases hb:size<1∨2048<size
 ·rw[show e0R (er c) size=(er c,0,4) by unfold e0R;rw[if_pos hb]];refine en func42 ntmps42 fun R w0=> ?_
  try simp only[e0W,a0J]
  refine go 2 ?_;refine bx fun b2=> ?_;refine al fun b4=> ?_;refine go 6 ?_;by_cases hlt:size<1
  ·refine go 12 ?_;refine a0D (a0K (v:= #[c.lv,.int .i64 c.next,.int .i64 c.bits,.int .i64 c.epoch]) Ag.o rfl (by simp[Value.cells]) (a0I (by simp[Value.cells]))) ?_;refine a0M Sz.o rfl rfl rfl (fun u hu=>hone u (by simpa [a0J] using hu)) (by simp[Value.cells,a0J,a0S]) (a0N (by simp[Value.cells,a0J,a0S])) ?_;refine go 4 ?_;exact c0T (x:=((H,c):b0B×Rx)) (g0W hc) idh (RV.agg Ag.o rfl (by simp[a0J]) (by rfl) (RV.tmp rfl (RV.tmp rfl RV.nil))) rfl gSp
  ·refine go 9 ?_;refine d0P rfl (by simpa using (by omega:2048<size)) ?_;refine go 2 ?_;refine a0D (a0K (v:= #[c.lv,.int .i64 c.next,.int .i64 c.bits,.int .i64 c.epoch]) Ag.o rfl (by simp[Value.cells]) (a0I (by simp[Value.cells]))) ?_;refine a0M Sz.o rfl rfl rfl (fun u hu=>hone u (by simpa [a0J] using hu)) (by simp[Value.cells,a0J,a0S]) (a0N (by simp[Value.cells,a0J,a0S])) ?_;refine go 4 ?_;exact c0T (x:=((H,c):b0B×Rx)) (g0W hc) idh (RV.agg Ag.o rfl (by simp[a0J]) (by rfl) (RV.tmp rfl (RV.tmp rfl RV.nil))) rfl gSp
 ·rw[show e0R (er c) size=g0M (er c) {v0 with size:=size} by unfold e0R;rw[if_neg hb]];refine en func42 ntmps42 fun R w0=> ?_
  try simp only[e0W,a0J]
  refine go 2 ?_;refine bx fun b2=> ?_;refine al fun b4=> ?_;refine go 15 ?_;refine b0S rfl (by simpa using (by omega: ¬2048<size)) ?_;refine go 4 ?_;refine a0D (a0K (v:= #[c.lv,.int .i64 c.next,.int .i64 c.bits,.int .i64 c.epoch]) Ag.o rfl (by simp[Value.cells]) (a0I (by simp[Value.cells]))) ?_;refine ce 2 (r1M H c {v:= {v0 with size:=size},mv:= .slice none 0 0} hc (r2U H size) hn) ?_;rintro⟨H',c'⟩ ⟨hs',hc',hr'⟩;refine ns ?_;refine go 3 ?_;refine a0M Sz.o rfl rfl rfl (fun u hu=>c0K hc' u (by simpa using hu)) (by simp[Value.cells,a0J,a0S]) (a0N (by simp[Value.cells,a0J,a0S])) ?_;refine go 4 ?_;exact c0T (x:=((H',c'):b0B×Rx)) ⟨hs',hc',hr'⟩ idh (RV.agg Ag.o rfl (by simp[a0J]) (by rfl) (RV.tmp rfl (RV.tmp rfl RV.nil))) rfl gSp
theorem n1A (H:b0B) (c:Rx) (id:Int) (only:Bool) (hc:c0Z H c) (hn:0≤c.next∧c.next<1000000000):a0G prog 45 #[e0W c,.int .i64 id,.bool only] [c0B H]
 (b0P (y0R H (i0P (er c) id only).1) (r2T (i0P (er c) id only).2.2 (i0P (er c) id only).2.1) (fun x=> [c0B x.1])):=by
 have hone:=c0K hc;obtain⟨p,cap,hlv,hcap⟩:=d0W hc.vols;have hrow:=hc.vols;rw[hlv]at hrow;have hfew:=hc.few;cases hf:c0Q (er c).l id with
 |none=>
  rw[show i0P (er c) id only=(er c,0,5) by unfold i0P;rw[hf]];refine en func45 ntmps45 fun R w0=> ?_
  try simp only[e0W,a0J]
  refine go 2 ?_;refine bx fun b3=> ?_;refine al fun b6=> ?_;refine go 6 ?_;refine a0D (a0K (v:= #[c.lv,.int .i64 c.next,.int .i64 c.bits,.int .i64 c.epoch]) Ag.o rfl (by simp[Value.cells]) (a0I (by simp[Value.cells]))) ?_;refine cg 1 (r0V hc hf) ?_;refine go 13 ?_;refine a0D (a0K (v:= #[c.lv,.int .i64 c.next,.int .i64 c.bits,.int .i64 c.epoch]) Ag.o rfl (by simp[Value.cells]) (a0I (by simp[Value.cells]))) ?_;refine a0M Sz.o rfl rfl rfl (fun u hu=>hone u (by simpa [a0J] using hu)) (by simp[Value.cells,a0J,a0S]) (a0N (by simp[Value.cells,a0J,a0S])) ?_;refine go 4 ?_;exact c0T (x:=((H,c):b0B×Rx)) (g0W hc) idh (RV.agg Ag.o rfl (by simp[a0J]) (by rfl) (RV.tmp rfl (RV.tmp rfl RV.nil))) rfl gSp
 |some i=>
  have hil:i<c.l.length:=by have:=u0X hf;simpa [er] using this
  rw[show i0P (er c) id only=g0M (er c) {v0 with parent:=id,only:=only,size:=c.l[i].v.size,m:=c.l[i].v.m} by unfold i0P;rw[hf];simp only[n0Q hil]];obtain⟨b,o,cap',cur,hv,hcp,hmem,hcut,hlen⟩:=g0V hrow (by omega);cases hv
  have hcu:(cur.drop (o+i*6)).take 6=a0S c.l[i]:=(i0I hcut hil).trans (n0G c.l hil);have hvi:=hc.maps _ (List.getElem_mem hil);obtain⟨pm,capm,hmv,hcm⟩:=d0W hvi.1;have hvi2:n0K H {v:= {v0 with parent:=id,only:=only,size:=c.l[i].v.size,m:=c.l[i].v.m},mv:= .slice pm c.l[i].v.m.length capm} :=by rw[←hmv];exact hvi
  refine en func45 ntmps45 fun R w0=> ?_
  try simp only[e0W,a0J]
  refine go 2 ?_;refine bx fun b3=> ?_;refine al fun b6=> ?_;refine go 6 ?_;refine a0D (a0K (v:= #[c.lv,.int .i64 c.next,.int .i64 c.bits,.int .i64 c.epoch]) Ag.o rfl (by simp[Value.cells]) (a0I (by simp[Value.cells]))) ?_;refine cg 1 (p0Q hc hf) ?_;refine go 10 ?_;refine b0S rfl (by simpa using (by omega: ¬((i:Int)<0))) ?_;refine go 5 ?_;refine a0D (b0N (v:= .slice (some ⟨b,o,none⟩) c.l.length cap) Sc.o rfl (by rw[hlv];rfl)) ?_;refine go 2 ?_;refine a0D (f0A (vs:=a0S c.l[i]) Ag.o rfl gFd hmem hcu rfl (by decide)) ?_;refine al fun b10=> ?_;refine a0M Sz.o rfl rfl rfl (fun u hu=>r0D hvi u (by simpa using hu)) (by simp[Value.cells,a0J,a0S]) (a0N (by simp[Value.cells,a0J,a0S])) ?_;refine go 4 ?_;refine a0D (a0K (v:= #[c.lv,.int .i64 c.next,.int .i64 c.bits,.int .i64 c.epoch]) Ag.o rfl (by simp[Value.cells]) (a0I (by simp[Value.cells]))) ?_;refine go 5 ?_;refine a0D (b0N (v:= .slice pm c.l[i].v.m.length capm) Sc.o rfl (by rw[←hmv];rfl)) ?_;refine ce 1 (r1M H c {v:= {v0 with parent:=id,only:=only,size:=c.l[i].v.size,m:=c.l[i].v.m},mv:= .slice pm c.l[i].v.m.length capm} hc hvi2 hn) ?_;rintro⟨H',c'⟩ ⟨hs',hc',hr'⟩;refine ns ?_;refine go 3 ?_;refine a0M Sz.o rfl rfl rfl (fun u hu=>c0K hc' u (by simpa using hu)) (by simp[Value.cells,a0J,a0S]) (a0N (by simp[Value.cells,a0J,a0S])) ?_;refine go 4 ?_;exact c0T (x:=((H',c'):b0B×Rx)) ⟨hs',hc',hr'⟩ idh (RV.agg Ag.o rfl (by simp[a0J]) (by rfl) (RV.tmp rfl (RV.tmp rfl RV.nil))) rfl gSp
theorem n2A {H:b0B} {e:TypeId} {size n k:Nat} {p:Option Addr} {cap:Nat} {xs:List Value} (h:i0V H e size (.slice p n cap) n xs) (hk:k≤n):i0V H e size (.slice p k cap) k (xs.take (k*size)):=by
 obtain⟨h1,h2⟩:=h;have hm:k*size≤n*size:=Nat.mul_le_mul_right _ hk;refine⟨by rw[List.length_take,h1];omega,?_⟩;rcases h2 with ⟨h3,h4⟩| ⟨b,o,cap2,cur,h3,h4,h5,h6⟩
 ·left;cases h3
  obtain rfl:k=0:=by omega
  exact⟨rfl,rfl⟩
 ·right;cases h3
  exact⟨b,o,cap,cur,rfl,by omega,h5,by rw[←h6,List.take_take,Nat.min_eq_left hm]⟩
theorem a2H {H:b0B} {e:TypeId} {size n k:Nat} {p:Option Addr} {cap:Nat} {xs:List Value} (h:i0V H e size (.slice p n cap) n xs) (hk:k≤n) (h0:0<n):i0V H e size (.slice (b1L p k cap size) (n-k) (cap-k)) (n-k) (xs.drop (k*size)):=by
 obtain⟨h1,h2⟩:=h;have hm:n*size-k*size=(n-k)*size:=by rw[Nat.sub_mul]
 refine⟨by rw[List.length_drop,h1,hm],?_⟩;rcases h2 with ⟨h3,h4⟩| ⟨b,o,cap2,cur,h3,h4,h5,h6⟩
 ·omega
 ·right;cases h3
  unfold b1L;by_cases hc:cap=k
  ·rw[if_pos hc];have hn:n-k=0:=by omega
   refine⟨b,o,cap-k,cur,rfl,by omega,h5,?_⟩;rw[hn,Nat.zero_mul,List.take_zero,List.drop_eq_nil_of_le];rw[h1];exact Nat.mul_le_mul_right _ (by omega)
  ·rw[if_neg hc];refine⟨b,o+k*size,cap-k,cur,by rw[Option.map_some,j0C],by omega,h5,?_⟩;rw[←h6,List.drop_take,List.drop_drop,hm]
theorem n1B {α:Type} {f:α→List Value} {size:Nat} (hf: ∀x,(f x).length=size): ∀(l:List α) (i:Nat),i≤l.length→(l.flatMap f).take (i*size)=(l.take i).flatMap f
 |l,0,_=>by simp
 | [],i+1,h=>by simp at h
 |x::l,i+1,h=>by
  rw[List.flatMap_cons,show(i+1)*size=(f x).length+i*size by rw[hf,Nat.succ_mul];omega,List.take_length_add_append,List.take_succ_cons,List.flatMap_cons,n1B hf l i (by simpa using h)]
theorem g1B {α:Type} {f:α→List Value} {size:Nat} (hf: ∀x,(f x).length=size): ∀(l:List α) (i:Nat),i≤l.length→(l.flatMap f).drop (i*size)=(l.drop i).flatMap f
 |l,0,_=>by simp
 | [],i+1,h=>by simp at h
 |x::l,i+1,h=>by
  rw[List.flatMap_cons,show(i+1)*size=(f x).length+i*size by rw[hf,Nat.succ_mul];omega,List.drop_length_add_append,List.drop_succ_cons,g1B hf l i (by simpa using h)]
theorem z2A {c:Rx} {i:Nat} {lv:Value} :er {c with lv:=lv,l:=c.l.take i++c.l.drop (i+1)} = {er c with l:=(er c).l.eraseIdx i} :=by
 unfold er;simp only[List.eraseIdx_eq_take_drop_succ,List.map_append,List.map_take,List.map_drop]
theorem x1J (H:b0B) (c:Rx) (id:Int) (hc:c0Z H c):a0G prog 75 #[e0W c,.int .i64 id] [c0B H]
 (b0P (y0R H (g0R (er c) id).1) (p1I (g0R (er c) id).2) (fun x=> [c0B x.1])):=by
 have hone:=c0K hc;obtain⟨p,cap,hlv,hcap⟩:=d0W hc.vols;have hrow:=hc.vols;rw[hlv]at hrow;have hfew:=hc.few;cases hf:c0Q (er c).l id with
 |none=>
  rw[show g0R (er c) id=(er c,5) by unfold g0R;rw[hf]];refine en func75 ntmps75 fun R w0=> ?_
  try simp only[e0W,a0J]
  refine go 2 ?_;refine bx fun b2=> ?_;refine al fun b4=> ?_;refine go 5 ?_;refine a0D (a0K (v:= #[c.lv,.int .i64 c.next,.int .i64 c.bits,.int .i64 c.epoch]) Ag.o rfl (by simp[Value.cells]) (a0I (by simp[Value.cells]))) ?_;refine cg 1 (r0V hc hf) ?_;refine go 13 ?_;refine a0D (a0K (v:= #[c.lv,.int .i64 c.next,.int .i64 c.bits,.int .i64 c.epoch]) Ag.o rfl (by simp[Value.cells]) (a0I (by simp[Value.cells]))) ?_;refine a0M Sz.o rfl rfl rfl (fun u hu=>hone u (by simpa [a0J] using hu)) (by simp[Value.cells,a0J,a0S]) (a0N (by simp[Value.cells,a0J,a0S])) ?_;refine go 3 ?_;exact c0T (x:=((H,c):b0B×Rx)) (g0W hc) idh (RV.agg Ag.o rfl (by simp[a0J]) (by rfl) (RV.tmp rfl RV.nil)) rfl gSp
 |some i=>
  have hil:i<c.l.length:=by have:=u0X hf;simpa [er] using this
  rw[show g0R (er c) id=({er c with l:=(er c).l.eraseIdx i},0) by unfold g0R;rw[hf]];have hto:i0V H 42 6 (.slice p i cap) i ((c.l.take i).flatMap a0S):=by rw[←n1B u0W c.l i (by omega)];exact n2A hrow (by omega)
  have hfrom:i0V H 42 6 (.slice (b1L p (i+1) cap 6) (c.l.length- (i+1)) (cap- (i+1))) (c.l.length- (i+1)) ((c.l.drop (i+1)).flatMap a0S):=by rw[←g1B u0W c.l (i+1) (by omega)];exact a2H hrow (by omega) (by omega)
  have hsum:i+(c.l.length- (i+1))=(c.l.take i++c.l.drop (i+1)).length:=by rw[List.length_append,List.length_take,List.length_drop];omega
  refine en func75 ntmps75 fun R w0=> ?_
  try simp only[e0W,a0J]
  refine go 2 ?_;refine bx fun b2=> ?_;refine al fun b4=> ?_;refine go 5 ?_;refine a0D (a0K (v:= #[c.lv,.int .i64 c.next,.int .i64 c.bits,.int .i64 c.epoch]) Ag.o rfl (by simp[Value.cells]) (a0I (by simp[Value.cells]))) ?_;refine cg 1 (p0Q hc hf) ?_;refine go 10 ?_;refine b0S rfl (by simpa using (by omega: ¬((i:Int)<0))) ?_;refine go 4 ?_;refine bl fun b14=> ?_;refine e0X (fun w h=>o0K 6 h) ?_;refine go 1 ?_;refine a0D (b0N (v:= .slice p c.l.length cap) Sc.o rfl (by rw[hlv];rfl)) ?_;refine go 1 ?_;refine a0D (i1Q Tsl.o rfl rfl (by omega)) ?_;refine(d0E (news:=(c.l.take i).flatMap a0S) Tsl.o Ttb.o Zr.o rfl rfl rfl gFd (b1S Tsl.o hto gFd (x0N fun x hx=>hc.maps x (List.mem_of_mem_take hx))) (by simp only[maxLen];omega) (by omega) (fun v19 hv19=> ?_));refine go 7 ?_;refine a0D (b0N (v:= .slice p c.l.length cap) Sc.o rfl (by rw[hlv];rfl)) ?_;refine go 2 ?_;refine a0D (s1U Tsl.o rfl rfl (by omega) (by omega)) ?_;refine(d0E (news:=(c.l.drop (i+1)).flatMap a0S) Tsl.o Ttb.o Zr.o rfl rfl rfl gFd (b1S Tsl.o hfrom gFd (x0N fun x hx=>hc.maps x (List.mem_of_mem_drop hx))) (by simp only[maxLen];omega) (by omega) (fun v26 hv26=> ?_));refine go 5 ?_;rw[List.nil_append,←List.flatMap_append,show 0+((i:Nat):Int).toNat+(c.l.length- (((i:Nat):Int)+1).toNat)=(c.l.take i++c.l.drop (i+1)).length by omega];refine t0J (show Fnd _ (b0I 42 6 v26 (c.l.take i++c.l.drop (i+1)).length ((c.l.take i++c.l.drop (i+1)).flatMap a0S)) _ from gFd) (show Fnd _ (c0B H) _ from gFd) fun H' hs hr2=> ?_;have hcn:c0Z H' {c with lv:=v26,l:=c.l.take i++c.l.drop (i+1)} :=⟨hr2,fun x hx=>(hc.maps x (by rcases List.mem_append.1 hx with h|h;{exact List.mem_of_mem_take h};{exact List.mem_of_mem_drop h})).more hs,by(show(c.l.take i++c.l.drop (i+1)).length≤1000);omega⟩;refine go 1 ?_;refine a0D (a0K (v:= #[v26,.int .i64 c.next,.int .i64 c.bits,.int .i64 c.epoch]) Ag.o rfl (by simp[Value.cells]) (a0I (by simp[Value.cells]))) ?_;refine a0M Sz.o rfl rfl rfl (fun u hu=>c0K hcn u (by simpa [a0J] using hu)) (by simp[Value.cells,a0J,a0S]) (a0N (by simp[Value.cells,a0J,a0S])) ?_;refine go 3 ?_;exact c0T (x:=((H',{c with lv:=v26,l:=c.l.take i++c.l.drop (i+1)}):b0B×Rx)) ⟨hs,hcn,z2A⟩ idh (RV.agg Ag.o rfl (by simp[a0J]) (by rfl) (RV.tmp rfl RV.nil)) rfl gSp
theorem z0N (v:Vx) (at_ n:Int) (hs:0≤v.v.size∧v.v.size≤2048):a0G prog 102 #[a1G v,.int .i64 at_,.int .i64 n] [] (a0T (.bool (m0Q v.v at_ n)) []):=by
 refine en func102 ntmps102 fun R w0=> ?_
 try simp only[a1G,a0S]
 refine go 2 ?_;refine bx fun b3=> ?_;refine go 4 ?_;by_cases h1:at_<0
 ·refine go 24 ?_;exact rG (hu:=(by rw[show m0Q v.v at_ n=true from decide_eq_true (.inl h1)]))
 ·by_cases h2:n<0
  ·refine go 24 ?_;exact rG (hu:=(by rw[show m0Q v.v at_ n=true from decide_eq_true (.inr (.inl h2))]))
  ·by_cases h3:v.v.size<at_
   ·refine go 24 ?_;exact rG (hu:=(by rw[show m0Q v.v at_ n=true from decide_eq_true (.inr (.inr (.inl h3)))]))
   ·refine go 24 ?_;exact rG (hu:=(by rw[show m0Q v.v at_ n=decide (v.v.size-at_<n)from decide_eq_decide.2 ⟨fun h=>by omega,fun h=>by omega⟩]))
theorem n1C {m:List Lf} (hm:m0R m) (at_:Nat): ∀k,(k0X m at_ k).length=k*64
 |0=>rfl
 |k+1=>by
  rw[k0X,List.length_append,n1C hm at_ k,List.length_take,List.length_drop,hm.get_len];omega
theorem r1Z (H:b0B) (v:Vx) (at_ n:Nat) (hv:n0K H v) (hs:at_+n≤4096):a0G prog 103 #[a1G v,.int .i64 at_,.int .i64 n] [c0B H] (a0T (b0C (k0X v.v.m at_ n)) [c0B H]):=by
 obtain⟨pm,capm,hmv,hcm⟩:=d0W hv.1;have hml:=hv.2.len;refine en func103 ntmps103 fun R w0=> ?_
 try simp only[a1G,a0S]
 refine go 2 ?_;refine bx fun b3=> ?_;refine go 16 ?_;refine a0V (X:= {k:Nat // k≤n}) (fun y=> [(1,.int .i64 at_),(2,.int .i64 n),(3,.pointer (some ⟨b3,0,none⟩)),(7,b0C (k0X v.v.m at_ y.1)),(8,.int .i64 ((at_+y.1:Nat):Int))]) (fun y=> [pts b3 (.cells #[.int .i64 v.v.id,.int .i64 v.v.parent,.bool v.v.only,.int .i64 v.v.size,.int .i64 v.v.born,v.mv] 42 (0,0)),c0B H,R]) (fun y=>n-y.1) ⟨0,Nat.zero_le _⟩ gSu gSp ?_;rintro⟨k,hk⟩ m0 hm0
 try simp only at hm0
 try dsimp only
 skip;refine go 10 ?_;refine a0O rfl (fun hb14=> ?_) (fun hb14=> ?_)
 ·have hkl:k<n:=by have:=of_decide_eq_true hb14;omega
  have hgl:=hv.2.get_len (((at_+k)/4:Nat):Int);have hrl:=n1C hv.2 at_ k;refine go 10 ?_;rw[show((at_+k:Nat):Int)/4=(((at_+k)/4:Nat):Int) by omega];refine cg 0 (i1E H v.mv v.v.m (((at_+k)/4:Nat):Int) hv.1 (by omega)) ?_;refine go 7 ?_;refine a0D (g1F (lo:=(((at_+k)%4*64:Nat):Int)) (hi:=(((at_+k)%4*64+64:Nat):Int)) Tst.o rfl (by(show some _=some _);congr 2<;>omega) (by(show some _=some _);congr 2<;>omega) (by rw[b0H,hgl];omega)) ?_;rw[l1V,show((((at_+k)%4*64+64:Nat):Int)).toNat=(at_+k)%4*64+64 from rfl,show((((at_+k)%4*64:Nat):Int)).toNat=(at_+k)%4*64 from rfl,List.drop_take,show(at_+k)%4*64+64- (at_+k)%4*64=64 by omega];refine a0D (h0N rfl rfl (by rw[b0H,b0H,hrl,List.length_take];omega)) ?_;rw[←h0U,show k0X v.v.m at_ k++((f0Y ((at_+k)/4:Nat) v.v.m).drop ((at_+k)%4*64)).take 64=k0X v.v.m at_ (k+1)from rfl];refine go 8 ?_;exact rd idh (⟨k+1,hkl⟩)
 ·obtain rfl:k=n:=by have:=of_decide_eq_false hb14;omega
  refine go 8 ?_;exact rG
def bytE (e:Int) (b:B):Value:= .tuple #[b0C b,.int .i64 e]
abbrev w0X (P:Rp):Prop:= ∀v∈P.l,0≤v.size∧v.size≤2048
theorem w0X.at_ {c:Rx} (h:w0X (er c)) {i:Nat} (hi:i<c.l.length):0≤c.l[i].v.size∧c.l[i].v.size≤2048:=h _ (by unfold er;exact List.mem_map.2 ⟨_,List.getElem_mem hi,rfl⟩)
theorem k1I {v:Vp} {at_ n:Int} (h:m0Q v at_ n=false):0≤at_∧0≤n∧at_≤v.size∧at_+n≤v.size:=by
 have:=of_decide_eq_false h;omega
theorem n1D (H:b0B) (c:Rx) (id at_ n:Int) (hc:c0Z H c) (hsz:w0X (er c)):a0G prog 46 #[e0W c,.int .i64 id,.int .i64 at_,.int .i64 n] [c0B H]
 (a0T (bytE (m0A (er c) id at_ n).2 (m0A (er c) id at_ n).1) [c0B H]):=by
 obtain⟨p,cap,hlv,hcap⟩:=d0W hc.vols;have hrow:=hc.vols;rw[hlv]at hrow;have hfew:=hc.few;cases hf:c0Q (er c).l id with
 |none=>
  rw[show m0A (er c) id at_ n=([],5) by unfold m0A;rw[hf]];refine en func46 ntmps46 fun R w0=> ?_
  try simp only[e0W,a0J]
  refine go 2 ?_;refine bx fun b4=> ?_;refine go 6 ?_;refine a0D (a0K (v:= #[c.lv,.int .i64 c.next,.int .i64 c.bits,.int .i64 c.epoch]) Ag.o rfl (by simp[Value.cells]) (a0I (by simp[Value.cells]))) ?_;refine cg 1 (r0V hc hf) ?_;refine go 17 ?_;exact rG
 |some i=>
  have hil:i<c.l.length:=by have:=u0X hf;simpa [er] using this
  obtain⟨b,o,cap',cur,hv,hcp,hmem,hcut,hlen⟩:=g0V hrow (by omega);cases hv
  have hcu:(cur.drop (o+i*6)).take 6=a0S c.l[i]:=(i0I hcut hil).trans (n0G c.l hil);have hvi:=hc.maps _ (List.getElem_mem hil);have hsi:=hsz.at_ hil;by_cases hb:m0Q c.l[i].v at_ n=true
  ·rw[show m0A (er c) id at_ n=([],6) by unfold m0A;rw[hf];simp only[n0Q hil,hb,if_true]];refine en func46 ntmps46 fun R w0=> ?_
   try simp only[e0W,a0J]
   refine go 2 ?_;refine bx fun b4=> ?_;refine go 6 ?_;refine a0D (a0K (v:= #[c.lv,.int .i64 c.next,.int .i64 c.bits,.int .i64 c.epoch]) Ag.o rfl (by simp[Value.cells]) (a0I (by simp[Value.cells]))) ?_;refine cg 1 (p0Q hc hf) ?_;refine go 10 ?_;refine b0S rfl (by simpa using (by omega: ¬((i:Int)<0))) ?_;refine go 6 ?_;refine a0D (b0N (v:= .slice (some ⟨b,o,none⟩) c.l.length cap) Sc.o rfl (by rw[hlv];rfl)) ?_;refine go 2 ?_;refine a0D (f0A (vs:=a0S c.l[i]) Ag.o rfl gFd hmem hcu rfl (by decide)) ?_;refine cg 2 (z0N c.l[i] at_ n hsi) ?_;refine go 9 ?_;exact rG
  ·replace hb:m0Q c.l[i].v at_ n=false:=by simpa using hb
   have hgd:=k1I hb;rw[show m0A (er c) id at_ n=(k0X c.l[i].v.m at_.toNat n.toNat,0) by unfold m0A;rw[hf];simp only[n0Q hil,hb,if_false];rfl];refine en func46 ntmps46 fun R w0=> ?_
   try simp only[e0W,a0J]
   refine go 2 ?_;refine bx fun b4=> ?_;refine go 6 ?_;refine a0D (a0K (v:= #[c.lv,.int .i64 c.next,.int .i64 c.bits,.int .i64 c.epoch]) Ag.o rfl (by simp[Value.cells]) (a0I (by simp[Value.cells]))) ?_;refine cg 1 (p0Q hc hf) ?_;refine go 10 ?_;refine b0S rfl (by simpa using (by omega: ¬((i:Int)<0))) ?_;refine go 6 ?_;refine a0D (b0N (v:= .slice (some ⟨b,o,none⟩) c.l.length cap) Sc.o rfl (by rw[hlv];rfl)) ?_;refine go 2 ?_;refine a0D (f0A (vs:=a0S c.l[i]) Ag.o rfl gFd hmem hcu rfl (by decide)) ?_;refine cg 2 (z0N c.l[i] at_ n hsi) ?_;refine go 8 ?_;refine a0D (b0N (v:= .slice (some ⟨b,o,none⟩) c.l.length cap) Sc.o rfl (by rw[hlv];rfl)) ?_;refine go 2 ?_;refine a0D (f0A (vs:=a0S c.l[i]) Ag.o rfl gFd hmem hcu rfl (by decide)) ?_;refine cg 2 ((by have h:=r1Z H c.l[i] at_.toNat n.toNat hvi (by omega);rw[Int.toNat_of_nonneg hgd.1,Int.toNat_of_nonneg hgd.2.1]at h;exact h)) ?_;refine go 4 ?_;exact rG
abbrev cl1 (bits:Nat) (data:B) (x:Lf):Bool:=decide (x.2≠data∧key bits (Sha.sum x.2)=key bits (Sha.sum data))
abbrev cl2 (bits:Nat) (data:B) (v:Vx):Bool:=v.v.m.any (cl1 bits data)
theorem n2B (c:Rx) (data:B):p0T (er c) data=c.l.any (cl2 c.bits data):=by
 unfold p0T er cl2;simp only[List.any_map];rfl
theorem k1J {α:Type} {p:α→Bool} {l:List α} {i:Nat} (h:i<l.length) (hz:(l.take i).any p=false) (hp:p l[i]=false):(l.take (i+1)).any p=false:=by
 rw[List.take_succ,List.getElem?_eq_getElem h,List.any_append,hz];simp[hp]
theorem d2E {α:Type} {p:α→Bool} {l:List α} {i:Nat} (h:i<l.length) (hp:p l[i]=true):l.any p=true:=List.any_eq_true.2 ⟨_,List.getElem_mem h,hp⟩
theorem i1H (H:b0B) (c:Rx) (data:B) (hc:c0Z H c) (hd:data.length≤100000) (hbits:c.bits≤256):a0G prog 174 #[e0W c,b0C data] [c0B H] (a0T (.bool (p0T (er c) data)) [c0B H]):=by
 rw[n2B];obtain⟨p,cap,hlv,hcap⟩:=d0W hc.vols;have hrow:=hc.vols;rw[hlv]at hrow;have hfew:=hc.few;refine en func174 ntmps174 fun R w0=> ?_
 try simp only[e0W,a0J]
 refine go 2 ?_;refine bx fun b2=> ?_;refine go 8 ?_;refine al fun b5=> ?_;refine a0M (vs:= #[.slice none 0 0,.int .i64 c.bits]) Sz.o rfl rfl rfl (by simp[Value.oneCell']) (by simp[Value.cells]) (a0N (by simp[Value.cells])) ?_;refine go 4 ?_;refine a0D (a0K (v:= #[.slice none 0 0,.int .i64 c.bits]) Ag.o rfl (by simp[Value.cells]) (a0I (by simp[Value.cells]))) ?_;refine cg 1 (m1S data c.bits hd hbits) ?_;refine go 7 ?_;refine a0D (b0N (v:= .slice p c.l.length cap) Sc.o rfl (by rw[hlv];rfl)) ?_;refine go 5 ?_;refine a0V (X:= {i:Nat // i≤c.l.length∧(c.l.take i).any (cl2 c.bits data)=false}) (fun y=> [(1,b0C data),(5,.pointer (some ⟨b5,0,none⟩)),(6,b0C (key c.bits (Sha.sum data))),(18,.slice p c.l.length cap),(19,.int .i64 c.l.length),(20,.int .i64 y.1)]) (fun y=> [pts b5 (.cells #[.slice none 0 0,.int .i64 c.bits] 277 (0,0)),c0B H,R]) (fun y=>c.l.length-y.1) ⟨0,Nat.zero_le _,rfl⟩ gSu gSp ?_;rintro⟨i,hi,hz⟩ m0 hm0
 try simp only at hm0
 try dsimp only
 skip;refine go 6 ?_;refine a0O rfl (fun hb21=> ?_) (fun hb21=> ?_)
 ·have hil:i<c.l.length:=by have:=of_decide_eq_true hb21;omega
  obtain⟨b,o,cap',cur,hv,hcp,hmem,hcut,hlen⟩:=g0V hrow (by omega);cases hv
  have hcu:(cur.drop (o+i*6)).take 6=a0S c.l[i]:=(i0I hcut hil).trans (n0G c.l hil);have hvi:=hc.maps _ (List.getElem_mem hil);obtain⟨pm,capm,hmv,hcm⟩:=d0W hvi.1;have hrm:=hvi.1;rw[hmv]at hrm;have hml:=hvi.2.len;refine go 7 ?_;refine a0D (f0A (vs:=a0S c.l[i]) Ag.o rfl gFd hmem hcu rfl (by decide)) ?_;refine al fun b8=> ?_;refine a0M Sz.o rfl rfl rfl (fun u hu=>r0D hvi u (by simpa using hu)) (by simp[Value.cells,a0J,a0S]) (a0N (by simp[Value.cells,a0J,a0S])) ?_;refine go 5 ?_;refine a0D (b0N (v:= .slice pm c.l[i].v.m.length capm) Sc.o rfl (by rw[←hmv];rfl)) ?_;refine go 5 ?_;refine a0V (X:= {j:Nat // j≤c.l[i].v.m.length∧(c.l[i].v.m.take j).any (cl1 c.bits data)=false}) (fun y=> [(1,b0C data),(5,.pointer (some ⟨b5,0,none⟩)),(6,b0C (key c.bits (Sha.sum data))),(18,.slice (some ⟨b,o,none⟩) c.l.length cap),(19,.int .i64 c.l.length),(20,.int .i64 i),(25,.slice pm c.l[i].v.m.length capm),(26,.int .i64 c.l[i].v.m.length),(27,.int .i64 y.1)]) (fun y=> [pts b5 (.cells #[.slice none 0 0,.int .i64 c.bits] 277 (0,0)),c0B H,R]) (fun y=>c.l[i].v.m.length-y.1) ⟨0,Nat.zero_le _,rfl⟩ gSu gSp ?_;rintro⟨j,hj,hy⟩ m2 hm2
  try simp only at hm2
  try dsimp only
  skip;refine go 6 ?_;refine a0O rfl (fun hb28=> ?_) (fun hb28=> ?_)
  ·have hjl:j<c.l[i].v.m.length:=by have:=of_decide_eq_true hb28;omega
   obtain⟨bm,om,capm',curm,hv2,hcp2,hmem2,hcut2,hlen2⟩:=g0V hrm (by omega);cases hv2
   have hcu2:(curm.drop (om+j*2)).take 2=lfC c.l[i].v.m[j]:=(i0I hcut2 hjl).trans (p0J (f:=lfC) (size:=2) (fun _=>rfl) c.l[i].v.m hjl);have hll:c.l[i].v.m[j].2.length=256:=(hvi.2.in_ _ (List.getElem_mem hjl)).2.2;refine go 7 ?_;refine a0D (f0A (vs:=lfC c.l[i].v.m[j]) Ag.o rfl gFd hmem2 hcu2 rfl (by decide)) ?_;refine al fun b10=> ?_;refine go 4 ?_;by_cases hne:c.l[i].v.m[j].2=data
   ·refine go 4 ?_;refine a0D (i0M rfl rfl) ?_;refine go 1 ?_;refine c0D rfl (wg rfl rfl rfl (wTF (by simpa using hne))) ?_;refine c0D rfl (wg rfl rfl rfl (wTF (by simpa using hne))) ?_;refine c0D rfl (wg rfl rfl rfl (wTF (by simpa using hne))) ?_;refine c0D rfl (wg rfl rfl rfl (wTF (by simpa using hne))) ?_;refine c0D rfl (wg rfl rfl rfl (wTF (by simpa using hne))) ?_;refine c0D rfl (wg rfl rfl rfl (wTF (by simpa using hne))) ?_;refine a0D (h0H rfl (by simpa using hne) rfl) ?_;refine go 9 ?_;exact rd idh (⟨j+1,hjl,k1J hjl hy (decide_eq_false fun h=>h.1 hne)⟩)
   ·refine go 4 ?_;refine a0D (i0M rfl rfl) ?_;refine go 1 ?_;refine b0Z (a0K (v:= #[.slice none 0 0,.int .i64 c.bits]) Ag.o rfl (by simp[Value.cells]) (a0I (by simp[Value.cells]))) (wg rfl rfl rfl (wTT (by simpa using hne))) ?_;refine b0Z (k1N Fl.o rfl) (wg rfl rfl rfl (wTT (by simpa using hne))) ?_;refine b0Z (b0N Sc.o rfl (by rfl)) (wg rfl rfl rfl (wTT (by simpa using hne))) ?_;refine o0V (wg rfl rfl rfl (wTT (by simpa using hne))) ?_;refine cg 0 (m1S c.l[i].v.m[j].2 c.bits (by omega) hbits) ?_;refine b0Z (d0H rfl) (wg rfl rfl rfl (wTT (by simpa using hne))) ?_;refine b0Z (s0O rfl rfl) (wg rfl rfl rfl (wTT (by simpa using hne))) ?_;refine a0D (h0V rfl (by simpa using hne) rfl) ?_;refine go 2 ?_;refine a0O rfl (fun hb42=> ?_) (fun hb42=> ?_)
    ·have he:key c.bits (Sha.sum c.l[i].v.m[j].2)=key c.bits (Sha.sum data):=by simpa [c0G] using hb42
     refine go 5 ?_;exact rG (hu:=(by rw[d2E hil (d2E hjl (decide_eq_true ⟨hne,he⟩))]))
    ·have he: ¬key c.bits (Sha.sum c.l[i].v.m[j].2)=key c.bits (Sha.sum data):=by simpa [c0G] using hb42
     refine go 6 ?_;exact rd idh (⟨j+1,hjl,k1J hjl hy (decide_eq_false fun h=>he h.2)⟩)
  ·obtain rfl:j=c.l[i].v.m.length:=by have:=of_decide_eq_false hb28;omega
   rw[List.take_length]at hy;refine go 6 ?_;exact rd idh (⟨i+1,hil,k1J hil hz hy⟩)
 ·obtain rfl:i=c.l.length:=by have:=of_decide_eq_false hb21;omega
  rw[List.take_length]at hz;refine go 7 ?_;exact rG (hu:=(by rw[hz]))
end Go.Proofs.Q
